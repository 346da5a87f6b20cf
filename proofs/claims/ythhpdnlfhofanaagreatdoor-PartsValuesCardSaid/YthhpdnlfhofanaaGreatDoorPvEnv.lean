/- The shell's values: what the functions of env and expand compute, for a list of groups with one group of at most one variable. -/
import Derived.Test.YthhpdnlfhofanaaGreatDoorPtEdit
import Derived.Test.YthhpdnlfhofanaaGreatDoorEvE
namespace Go.Proofs.YthhpdnlfhofanaaGreatDoor
open Go.RowKit
set_option linter.unusedVariables false
set_option linter.unusedSimpArgs false
structure Val where
  text : List UInt8
  marks : List UInt8
  deriving Inhabited, DecidableEq
def Val.v (x : Val) : List V := [.str x.text, .str x.marks]
def valV (l : List Val) : List (List V) := l.map Val.v
theorem valV_len (l : List Val) : (valV l).length = l.length := by simp [valV]
theorem valV_row {l : List Val} {i : Nat} {f : Val} (h : l[i]? = some f) : rowAt (valV l) (i : Int) = f.v := by simp [rowAt, valV, List.getD, h]
theorem valV_ok {l : List Val} {i : Nat} (h : i < l.length) : okRow (valV l) i 2 = true := by simp [okRow, valV, List.getElem?_eq_getElem h, Val.v]
theorem valV_lenL (l : List Val) : lenL (valV l) = (l.length : Int) := by simp [lenL, valV]
theorem valV_all (l : List Val) : List.take l.length (valV l) = valV l := List.take_of_length_le (by simp [valV])
theorem valV_all1 (l : List Val) (x : List V) : List.take (l.length + 1) (valV l ++ [x]) = valV l ++ [x] := List.take_of_length_le (by simp [valV])
theorem valV_add (l : List Val) (f : Val) : valV l ++ [f.v] = valV (l ++ [f]) := by simp [valV]
theorem valV_part {l : List Val} {i : Nat} {f : Val} (h : l[i]? = some f) (o n : Nat) : partAt (valV l) i o n = sub f.v o n := by simp [partAt, valV, h]
theorem valV_put {l : List Val} {i : Nat} {f g : Val} (h : l[i]? = some f) {o : Nat} {ys : List V} (e : put f.v o ys = some g.v) : putAt (valV l) i o ys = some (valV (l.set i g)) := by simp [putAt, valV, h, e]
theorem valV_snoc {l : List Val} {j : Nat} {f : Val} (h : l[j]? = some f) : valV (l.take j) ++ [f.v] = valV (l.take (j + 1)) := by
  have := (List.getElem?_eq_some_iff.1 h); obtain ⟨h1, rfl⟩ := this
  unfold valV; rw [List.take_succ_eq_append_getElem h1, List.map_append]; rfl
theorem valV_app (a b : List Val) : valV a ++ valV b = valV (a ++ b) := by simp [valV]
theorem valV_take (a : List Val) (n : Nat) : List.take n (valV a) = valV (a.take n) := by simp [valV]
theorem valV_drop (a : List Val) (n : Nat) : List.drop n (valV a) = valV (a.drop n) := by simp [valV]
theorem valV_set (a : List Val) (n : Nat) (f : Val) : (valV a).set n f.v = valV (a.set n f) := by simp [valV]
theorem valV_head (a : List Val) : headOkP 2 (valV a) = true := by cases a <;> rfl
theorem valV_get (a : List Val) (i : Nat) : (valV a)[i]? = (a[i]?).map Val.v := by simp [valV]
theorem Val.eqv {x y : Val} : x = y ↔ x.text = y.text ∧ x.marks = y.marks := by cases x; cases y; simp
theorem Val.v_inj {x y : Val} : x.v = y.v ↔ x = y := by
  cases x; cases y
  simp [Val.v, and_assoc]
theorem valV_inj {a b : List Val} : valV a = valV b ↔ a = b := List.map_inj_right fun _ _ h => Val.v_inj.1 h
def valSh : Sh := .pair .str (.pair .str .unit)
def Val.fit (x : Val) : Prop := x.text.length ≤ 140737488351232 ∧ x.marks.length ≤ 140737488351232
theorem Val.fits {vs : List V} (h : Fits valSh vs) : ∃ x : Val, vs = x.v ∧ x.fit := by
  unfold valSh at h
  obtain ⟨u1, w1, rfl, a1, b1⟩ := h
  obtain ⟨x1, rfl, fx1⟩ := a1
  obtain ⟨u2, w2, rfl, a2, b2⟩ := b1
  obtain ⟨x2, rfl, fx2⟩ := a2
  obtain rfl : w2 = [] := b2
  exact ⟨⟨x1, x2⟩, rfl, ⟨fx1, fx2⟩⟩

def longL (l : List (List UInt8)) (n : Nat) : Prop := ∀ s ∈ l, s.length ≤ n
def marksOf (s : List UInt8) : List UInt8 := Lib.repeatL [49] s.length
def quoF (l : List (List UInt8)) : List Val := l.map fun s => ⟨s, marksOf s⟩
abbrev Ev := Option (List UInt8 × List (List UInt8))
def varV : Ev → List (List V)
  | none => []
  | some (n, l) => [[.int .i64 2, .str n, .lst (strV l)]]
def envV (nx : Int) (E : Ev) : List (List V) := [[.int .i64 1, .int .i64 nx, .lst (varV E)]]
def getF (E : Ev) (nm : List UInt8) : List (List UInt8) × Bool := match E with
  | none => ([], false)
  | some (n, l) => if n = nm then (l, true) else ([], false)
def valF (E : Ev) (nm : List UInt8) : List (List UInt8) :=
  if numB nm = true then (if ((getF E [42]).1.length : Int) < numV nm then [] else ((getF E [42]).1.drop (numV nm - 1).toNat).take ((numV nm).toNat - (numV nm - 1).toNat)) else (getF E nm).1
/-- A byte of a name. -/
def nmB (c : Int) : Bool := (decide (97 ≤ c) && decide (c ≤ 122)) || (decide (65 ≤ c) && decide (c ≤ 90)) || (decide (48 ≤ c) && decide (c ≤ 57)) || decide (c = 95) || decide (c = 42)
def badB (c : Int) : Bool := decide (c < 33) || decide (126 < c) || decide (c = 47)
def validF (s : List UInt8) : Bool := !(decide (s = []) || decide (s = [46]) || decide (s = [46, 46]) || decide (64 < s.length)) && s.all fun c => !badB (c.toNat : Int)
def totF : List (List UInt8) → Int
  | [] => 0
  | s :: t => (s.length : Int) + totF t
def zeroIn (l : List (List UInt8)) : Bool := l.any fun s => Lib.contains s [0]
def encF (l : List (List UInt8)) : Int := if l = [] then 1 else if 256 < l.length then 22 else if zeroIn l = true then 2 else 0
def textsF (l : List Val) : List (List UInt8) := l.map Val.text
def marksL (l : List Val) : List (List UInt8) := l.map Val.marks
def zeroAt (l : List (List UInt8)) (i : Int) : Prop := (zeroIn l = true → 0 ≤ i) ∧ (zeroIn l = false → i = -1)
def smallE (E : Ev) : Prop := ∀ n l, E = some (n, l) → l.length ≤ 300 ∧ longL l 100
def newE (E : Ev) : Int := match E with
  | none => 2
  | some _ => 3
/-- An assignment in the new group. -/
def setF (nm : List UInt8) (l : List (List UInt8)) : Ev × Int :=
  if validF nm = false then (none, 6) else if l = [] then (none, 0) else if encF l = 0 then (some (nm, l), 0) else (none, encF l)
def wdF (k : Int) (E : Ev) (nm : List UInt8) : List (List UInt8) := if k = 2 then valF E nm else [textN 10 ((valF E nm).length : Int)]
def kindOk (k : Int) : Prop := k = 2 ∨ k = 3
/-- How many bytes of a name a text begins with. -/
def scanF : List UInt8 → Nat
  | [] => 0
  | c :: s => if nmB (c.toNat : Int) = true then scanF s + 1 else 0
def hereEnd (b : List UInt8) : List UInt8 × Int := if 65536 < b.length then ([], 4) else (b, 0)
/-- What is written for a here document. -/
def hereF (E : Ev) : Nat → List UInt8 → List UInt8 → List UInt8 × Int
  | 0, _, b => hereEnd b
  | k + 1, s, b =>
    if s = [] ∨ 65536 < b.length then hereEnd b
    else if cutC s [36] = false then hereEnd (b ++ cutA s [36])
    else if hpF (cutB s [36]) [36] = true then hereF E k ((cutB s [36]).drop 1) (b ++ cutA s [36] ++ [36])
    else if scanF (cutB s [36]) = 0 then hereF E k (cutB s [36]) (b ++ cutA s [36] ++ [36])
    else hereF E k (tpF ((cutB s [36]).drop (scanF (cutB s [36]))) [94]) (b ++ cutA s [36] ++ Lib.join (valF E ((cutB s [36]).take (scanF (cutB s [36])))) [32])
end Go.Proofs.YthhpdnlfhofanaaGreatDoor
namespace Go.Proofs.YthhpdnlfhofanaaGreatDoor
open Go.RowKit
set_option maxRecDepth 100000
set_option linter.unusedVariables false
set_option linter.unusedSimpArgs false
def vaCon : Con := fun vs bs K => match vs, bs with
  | [.str s], [] => s.length ≤ 1000 ∧ K (.bool (validF s)) []
  | _, _ => False

def txCon : Con := fun vs bs K => match vs, bs with
  | [.lst xs, .lst ys], [] => ∃ l l', xs = strV l ∧ ys = strV l' ∧ l.length ≤ 1000 ∧ l'.length ≤ 1000 ∧ K (.bool (decide (l = l'))) []
  | _, _ => False

def quCon : Con := fun vs bs K => match vs, bs with
  | [.lst xs], [] => ∃ l, xs = strV l ∧ l.length ≤ 300 ∧ longL l 1000 ∧ K (.lst (valV (quoF l))) []
  | _, _ => False

def teCon : Con := fun vs bs K => match vs, bs with
  | [.lst xs], [] => ∃ l, xs = valV l ∧ l.length ≤ 300 ∧ K (.lst (strV (textsF l))) []
  | _, _ => False

def ixCon : Con := fun vs bs K => match vs, bs with
  | [.lst xs, .func 140 [] []], [] => ∃ l, xs = strV l ∧ l.length ≤ 300 ∧ longL l 1000 ∧ ∀ i : Int, zeroAt l i → K (.int .i64 i) []
  | _, _ => False

structure vaC where
  s : List UInt8
  cnt : Int
structure vaX where
  i : Int
def vaSt (c : vaC) (x : vaX) : St := ⟨[(0, .str c.s), (20, .int .i64 c.cnt), (21, .int .i64 x.i)], []⟩
set_option maxHeartbeats 4000000 in
def vaUn (s : St) : Option (vaC × vaX) :=
  match s with
  | ⟨[(q0, .str s), (q1, .int .i64 cnt), (q2, .int .i64 i)], []⟩ => bif Nat.beq q0 0 && Nat.beq q1 20 && Nat.beq q2 21 then some (⟨s, cnt⟩, ⟨i⟩) else none
  | _ => none
set_option maxHeartbeats 4000000 in
def vaL (inv : vaC → vaX → vaX → Nat → Prop) : LoopS where
  C := vaC
  X := vaX
  st := vaSt
  un := vaUn
  ok := by
    intro s c x h
    unfold vaUn at h
    split at h
    · simp only [Bool.cond_eq_ite] at h
      split at h
      · rename_i hg
        simp only [Bool.and_eq_true, Nat.beq_eq] at hg
        obtain ⟨⟨rfl, rfl⟩, rfl⟩ := hg
        cases h
        rfl
      · cases h
    · cases h
  inv := inv

structure txC where
  xs : List (List V)
  ys : List (List V)
  cnt : Int
structure txX where
  i : Int
def txSt (c : txC) (x : txX) : St := ⟨[(0, .lst c.xs), (1, .lst c.ys), (12, .int .i64 c.cnt), (13, .int .i64 x.i)], []⟩
set_option maxHeartbeats 4000000 in
def txUn (s : St) : Option (txC × txX) :=
  match s with
  | ⟨[(q0, .lst xs), (q1, .lst ys), (q2, .int .i64 cnt), (q3, .int .i64 i)], []⟩ => bif Nat.beq q0 0 && Nat.beq q1 1 && Nat.beq q2 12 && Nat.beq q3 13 then some (⟨xs, ys, cnt⟩, ⟨i⟩) else none
  | _ => none
set_option maxHeartbeats 4000000 in
def txL (inv : txC → txX → txX → Nat → Prop) : LoopS where
  C := txC
  X := txX
  st := txSt
  un := txUn
  ok := by
    intro s c x h
    unfold txUn at h
    split at h
    · simp only [Bool.cond_eq_ite] at h
      split at h
      · rename_i hg
        simp only [Bool.and_eq_true, Nat.beq_eq] at hg
        obtain ⟨⟨⟨rfl, rfl⟩, rfl⟩, rfl⟩ := hg
        cases h
        rfl
      · cases h
    · cases h
  inv := inv

structure quC where
  xs : List (List V)
  cnt : Int
structure quX where
  ys : List (List V)
  a : Nat
  b : Nat
  i : Int
def quSt (c : quC) (x : quX) : St := ⟨[(3, .ref 0 0 x.a x.b), (6, .lst c.xs), (7, .int .i64 c.cnt), (8, .int .i64 x.i)], [(0, ⟨true, false, true, x.ys, 0⟩)]⟩
set_option maxHeartbeats 4000000 in
def quUn (s : St) : Option (quC × quX) :=
  match s with
  | ⟨[(q0, .ref q1 q2 a b), (q3, .lst xs), (q4, .int .i64 cnt), (q5, .int .i64 i)], [(q6, ⟨true, false, true, ys, q7⟩)]⟩ => bif Nat.beq q0 3 && Nat.beq q1 0 && Nat.beq q2 0 && Nat.beq q3 6 && Nat.beq q4 7 && Nat.beq q5 8 && Nat.beq q6 0 && Nat.beq q7 0 then some (⟨xs, cnt⟩, ⟨ys, a, b, i⟩) else none
  | _ => none
set_option maxHeartbeats 4000000 in
def quL (inv : quC → quX → quX → Nat → Prop) : LoopS where
  C := quC
  X := quX
  st := quSt
  un := quUn
  ok := by
    intro s c x h
    unfold quUn at h
    split at h
    · simp only [Bool.cond_eq_ite] at h
      split at h
      · rename_i hg
        simp only [Bool.and_eq_true, Nat.beq_eq] at hg
        obtain ⟨⟨⟨⟨⟨⟨⟨rfl, rfl⟩, rfl⟩, rfl⟩, rfl⟩, rfl⟩, rfl⟩, rfl⟩ := hg
        cases h
        rfl
      · cases h
    · cases h
  inv := inv

structure enC where
  xs : List (List V)
  zs : List (List V)
  cnt : Int
structure enX where
  n : Int
  i : Int
def enSt (c : enC) (x : enX) : St := ⟨[(0, .lst c.xs), (4, .int .i64 x.n), (21, .lst c.zs), (22, .int .i64 c.cnt), (23, .int .i64 x.i)], []⟩
set_option maxHeartbeats 4000000 in
def enUn (s : St) : Option (enC × enX) :=
  match s with
  | ⟨[(q0, .lst xs), (q1, .int .i64 n), (q2, .lst zs), (q3, .int .i64 cnt), (q4, .int .i64 i)], []⟩ => bif Nat.beq q0 0 && Nat.beq q1 4 && Nat.beq q2 21 && Nat.beq q3 22 && Nat.beq q4 23 then some (⟨xs, zs, cnt⟩, ⟨n, i⟩) else none
  | _ => none
set_option maxHeartbeats 4000000 in
def enL (inv : enC → enX → enX → Nat → Prop) : LoopS where
  C := enC
  X := enX
  st := enSt
  un := enUn
  ok := by
    intro s c x h
    unfold enUn at h
    split at h
    · simp only [Bool.cond_eq_ite] at h
      split at h
      · rename_i hg
        simp only [Bool.and_eq_true, Nat.beq_eq] at hg
        obtain ⟨⟨⟨⟨rfl, rfl⟩, rfl⟩, rfl⟩, rfl⟩ := hg
        cases h
        rfl
      · cases h
    · cases h
  inv := inv

structure ixC where
  xs : List (List V)
  cnt : Int
structure ixX where
  i : Int
def ixSt (c : ixC) (x : ixX) : St := ⟨[(0, .lst c.xs), (1, .func 140 [] []), (7, .int .i64 c.cnt), (8, .int .i64 x.i)], []⟩
set_option maxHeartbeats 4000000 in
def ixUn (s : St) : Option (ixC × ixX) :=
  match s with
  | ⟨[(q0, .lst xs), (q1, .func q2 [] []), (q3, .int .i64 cnt), (q4, .int .i64 i)], []⟩ => bif Nat.beq q0 0 && Nat.beq q1 1 && Nat.beq q2 140 && Nat.beq q3 7 && Nat.beq q4 8 then some (⟨xs, cnt⟩, ⟨i⟩) else none
  | _ => none
set_option maxHeartbeats 4000000 in
def ixL (inv : ixC → ixX → ixX → Nat → Prop) : LoopS where
  C := ixC
  X := ixX
  st := ixSt
  un := ixUn
  ok := by
    intro s c x h
    unfold ixUn at h
    split at h
    · simp only [Bool.cond_eq_ite] at h
      split at h
      · rename_i hg
        simp only [Bool.and_eq_true, Nat.beq_eq] at hg
        obtain ⟨⟨⟨⟨rfl, rfl⟩, rfl⟩, rfl⟩, rfl⟩ := hg
        cases h
        rfl
      · cases h
    · cases h
  inv := inv

theorem va_vc [MaxL] (s : List UInt8) (I : vaC → vaX → vaX → Nat → Prop) (K : V → List Bk → Prop) : vcF Tryz.prog cfgN (ctOf []) (lpOf [(4, vaL I)]) 58 [.str s] [] K = (
  br (eqS s []) (
    K (V.bool false) []) (
    br (eqS s [46]) (
      K (V.bool false) []) (
      br (eqS s [46, 46]) (
        K (V.bool false) []) (
        br (ltI 64 (lenS s)) (
          K (V.bool false) []) (
          (∃ m4 : Nat, (((m4 : Nat) < 18446744073709551616)) ∧ (
          I (vaC.mk s (lenS s)) (vaX.mk 0) (vaX.mk 0) m4)) ∧ (
          ∀ x4 : (vaL I).X, ∀ m5 : Nat, (I (vaC.mk s (lenS s)) (vaX.mk 0) x4 m5) → (
          br (ltI x4.1 (lenS s)) (
            need (andB (leI 0 x4.1) (ltI x4.1 (lenS s))) (
            br (ltI (atS s x4.1) 33) (
              K (V.bool false) []) (
              need (andB (leI 0 x4.1) (ltI x4.1 (lenS s))) (
              br (ltI 126 (atS s x4.1)) (
                K (V.bool false) []) (
                need (andB (leI 0 x4.1) (ltI x4.1 (lenS s))) (
                br (eqI (atS s x4.1) 47) (
                  K (V.bool false) []) (
                  ((vaC.mk s (lenS s) : (vaL I).C) = vaC.mk s (lenS s)) ∧ (
                  ∃ m'6 : Nat, (((m'6 : Nat) < m5)) ∧ (
                  I (vaC.mk s (lenS s)) (vaX.mk 0) (vaX.mk (addI IntKind.i64 x4.1 1)) m'6))))))))) (
            K (V.bool true) [])))))))) := by kernel_rfl

theorem tx_vc [MaxL] (xs ys : List (List V)) (I : txC → txX → txX → Nat → Prop) (K : V → List Bk → Prop) : vcF Tryz.prog cfgN (ctOf []) (lpOf [(4, txL I)]) 20 [.lst xs, .lst ys] [] K = (
  br (notB (eqI (lenL xs) (lenL ys))) (
    K (V.bool false) []) (
    (∃ m5 : Nat, (((m5 : Nat) < 18446744073709551616)) ∧ (
    I (txC.mk xs ys (lenL xs)) (txX.mk 0) (txX.mk 0) m5)) ∧ (
    ∀ x5 : (txL I).X, ∀ m6 : Nat, (I (txC.mk xs ys (lenL xs)) (txX.mk 0) x5 m6) → (
    br (ltI x5.1 (lenL xs)) (
      need (andB (leI 0 x5.1) (ltI x5.1 (lenL xs))) (
      need (okRow xs x5.1.toNat 1) (
      ∃ s7 : List UInt8, ((sub (rowAt xs x5.1) 0 1 : Option (List V)) = some [V.str s7]) ∧ (
      need (andB (leI 0 x5.1) (ltI x5.1 (lenL ys))) (
      need (okRow ys x5.1.toNat 1) (
      ∃ s8 : List UInt8, ((sub (rowAt ys x5.1) 0 1 : Option (List V)) = some [V.str s8]) ∧ (
      br (notB (eqS s7 s8)) (
        K (V.bool false) []) (
        ((txC.mk xs ys (lenL xs) : (txL I).C) = txC.mk xs ys (lenL xs)) ∧ (
        ∃ m'9 : Nat, (((m'9 : Nat) < m6)) ∧ (
        I (txC.mk xs ys (lenL xs)) (txX.mk 0) (txX.mk (addI IntKind.i64 x5.1 1)) m'9)))))))))) (
      K (V.bool true) []))))) := by kernel_rfl

theorem qu_vc [MaxL] (xs : List (List V)) (I : quC → quX → quX → Nat → Prop) (K : V → List Bk → Prop) : vcF Tryz.prog cfgN (ctOf []) (lpOf [(3, quL I)]) 142 [.lst xs] [] K = (
  (∃ m4 : Nat, (((m4 : Nat) < 18446744073709551616)) ∧ (
  I (quC.mk xs (lenL xs)) (quX.mk [] 0 0 0) (quX.mk [] 0 0 0) m4)) ∧ (
  ∀ x4 : (quL I).X, ∀ m5 : Nat, (I (quC.mk xs (lenL xs)) (quX.mk [] 0 0 0) x4 m5) → (
  br (ltI x4.4 (lenL xs)) (
    need (andB (leI 0 x4.4) (ltI x4.4 (lenL xs))) (
    need (okRow xs x4.4.toNat 1) (
    ∃ s6 : List UInt8, ((sub (rowAt xs x4.4) 0 1 : Option (List V)) = some [V.str s6]) ∧ (
    need (andB (andB true (leI (lenS s6) 9223372036854775807)) (leN (1 * (lenS s6).toNat) 140737488355328)) (
    need (headOkP 2 x4.1) (
    br (leN (x4.2 + 1) x4.3) (
      ((quC.mk xs (lenL xs) : (quL I).C) = quC.mk xs (lenL xs)) ∧ (
      ∃ m'7 : Nat, (((m'7 : Nat) < m5)) ∧ (
      I (quC.mk xs (lenL xs)) (quX.mk [] 0 0 0) (quX.mk (List.take (0 + x4.2) x4.1 ++ [[V.str s6, V.str (Lib.repeatL (ByteArray.mk #[49]).data.toList (lenS s6).toNat)]] ++ List.drop (0 + x4.2 + 1) x4.1) (x4.2 + 1) x4.3 (addI IntKind.i64 x4.4 1)) m'7))) (
      need (eqN (0 + x4.2) x4.1.length) (
      need (leN ((x4.2 + 1) * 32) 140737488355328) (
      ((quC.mk xs (lenL xs) : (quL I).C) = quC.mk xs (lenL xs)) ∧ (
      ∃ m'7 : Nat, (((m'7 : Nat) < m5)) ∧ (
      I (quC.mk xs (lenL xs)) (quX.mk [] 0 0 0) (quX.mk (List.drop 0 x4.1 ++ [[V.str s6, V.str (Lib.repeatL (ByteArray.mk #[49]).data.toList (lenS s6).toNat)]]) (x4.2 + 1) (x4.2 + 1) (addI IntKind.i64 x4.4 1)) m'7))))))))))) (
    K (V.lst (List.take x4.2 (List.drop 0 x4.1))) [])))) := by kernel_rfl

theorem te_vc [MaxL] (xs : List (List V)) (I : quC → quX → quX → Nat → Prop) (K : V → List Bk → Prop) : vcF Tryz.prog cfgN (ctOf []) (lpOf [(3, quL I)]) 65 [.lst xs] [] K = (
  (∃ m4 : Nat, (((m4 : Nat) < 18446744073709551616)) ∧ (
  I (quC.mk xs (lenL xs)) (quX.mk [] 0 0 0) (quX.mk [] 0 0 0) m4)) ∧ (
  ∀ x4 : (quL I).X, ∀ m5 : Nat, (I (quC.mk xs (lenL xs)) (quX.mk [] 0 0 0) x4 m5) → (
  br (ltI x4.4 (lenL xs)) (
    need (andB (leI 0 x4.4) (ltI x4.4 (lenL xs))) (
    need (okRow xs x4.4.toNat 2) (
    ∃ s6 : List UInt8, ∃ s7 : List UInt8, ((sub (rowAt xs x4.4) 0 2 : Option (List V)) = some [V.str s6, V.str s7]) ∧ (
    need (headOkP 1 x4.1) (
    br (leN (x4.2 + 1) x4.3) (
      ((quC.mk xs (lenL xs) : (quL I).C) = quC.mk xs (lenL xs)) ∧ (
      ∃ m'8 : Nat, (((m'8 : Nat) < m5)) ∧ (
      I (quC.mk xs (lenL xs)) (quX.mk [] 0 0 0) (quX.mk (List.take (0 + x4.2) x4.1 ++ [[V.str s6]] ++ List.drop (0 + x4.2 + 1) x4.1) (x4.2 + 1) x4.3 (addI IntKind.i64 x4.4 1)) m'8))) (
      need (eqN (0 + x4.2) x4.1.length) (
      need (leN ((x4.2 + 1) * 16) 140737488355328) (
      ((quC.mk xs (lenL xs) : (quL I).C) = quC.mk xs (lenL xs)) ∧ (
      ∃ m'8 : Nat, (((m'8 : Nat) < m5)) ∧ (
      I (quC.mk xs (lenL xs)) (quX.mk [] 0 0 0) (quX.mk (List.drop 0 x4.1 ++ [[V.str s6]]) (x4.2 + 1) (x4.2 + 1) (addI IntKind.i64 x4.4 1)) m'8)))))))))) (
    K (V.lst (List.take x4.2 (List.drop 0 x4.1))) [])))) := by kernel_rfl

theorem ix_vc [MaxL] (xs : List (List V)) (I : ixC → ixX → ixX → Nat → Prop) (K : V → List Bk → Prop) : vcF Tryz.prog cfgN (ctOf [(140, inlC Tryz.prog cfgN (ctOf []) 140)]) (lpOf [(2, ixL I)]) 210 [.lst xs, .func 140 [] []] [] K = (
  (∃ m4 : Nat, (((m4 : Nat) < 18446744073709551616)) ∧ (
  I (ixC.mk xs (lenL xs)) (ixX.mk 0) (ixX.mk 0) m4)) ∧ (
  ∀ x4 : (ixL I).X, ∀ m5 : Nat, (I (ixC.mk xs (lenL xs)) (ixX.mk 0) x4 m5) → (
  br (ltI x4.1 (lenL xs)) (
    need (andB (leI 0 x4.1) (ltI x4.1 (lenL xs))) (
    need (okRow xs x4.1.toNat 1) (
    ∃ s6 : List UInt8, ((sub (rowAt xs x4.1) 0 1 : Option (List V)) = some [V.str s6]) ∧ (
    need (decide (s6.length < 4294967281)) (
    br (decide (0 ≤ Lib.index s6 (ByteArray.mk #[0]).data.toList)) (
      K (V.int IntKind.i64 x4.1) []) (
      ((ixC.mk xs (lenL xs) : (ixL I).C) = ixC.mk xs (lenL xs)) ∧ (
      ∃ m'7 : Nat, (((m'7 : Nat) < m5)) ∧ (
      I (ixC.mk xs (lenL xs)) (ixX.mk 0) (ixX.mk (addI IntKind.i64 x4.1 1)) m'7)))))))) (
    K (V.int IntKind.i64 (-1)) [])))) := by kernel_rfl

end Go.Proofs.YthhpdnlfhofanaaGreatDoor
namespace Go.Proofs.YthhpdnlfhofanaaGreatDoor
open Go.RowKit
set_option maxRecDepth 100000
set_option linter.unusedVariables false
set_option linter.unusedSimpArgs false
theorem atS_get {s : List UInt8} {k : Nat} {c : UInt8} (h : s[k]? = some c) : atS s (k : Int) = (c.toNat : Int) := by simp [atS, List.getD, h]
theorem va_con [MaxL] {n : Nat} (hn : 1 ≤ n) : ConOk (evalF Tryz.prog cfgN n) 58 vaCon := by
  intro vs bs K h
  unfold vaCon at h
  split at h
  · rename_i s
    obtain ⟨hs, hK⟩ := h
    refine run_of (lp := lpOf [(4, vaL fun _ _ x m => ∃ k : Nat, x = ⟨(k : Int)⟩ ∧ k + m = s.length ∧ (s.take k).all (fun c => !badB (c.toNat : Int)) = true)]) hn (fun k _ => noCt_ok _) ?_
    rw [va_vc]
    have f : ∀ {b : Bool}, validF s = b → K (.bool b) [] := fun h => by subst h; exact hK
    rw [br_iff]; refine ⟨fun g => f (by have g : s = [] := by simpa only [br_iff, need_iff, andB_t, andB_f, orB_t, orB_f, notB_t, notB_f, leI_t, leI_f, ltI_t, ltI_f, eqI_t, eqI_f, leN_t, leN_f, eqN_t, eqN_f, eqS_t, eqS_f, eqB_t, eqB_f, catOk_t, leC_t] using g
                                        unfold validF; simp [g]), fun g1 => ?_⟩
    rw [br_iff]; refine ⟨fun g => f (by have g : s = [46] := by simpa only [br_iff, need_iff, andB_t, andB_f, orB_t, orB_f, notB_t, notB_f, leI_t, leI_f, ltI_t, ltI_f, eqI_t, eqI_f, leN_t, leN_f, eqN_t, eqN_f, eqS_t, eqS_f, eqB_t, eqB_f, catOk_t, leC_t] using g
                                        unfold validF; simp [g]), fun g2 => ?_⟩
    rw [br_iff]; refine ⟨fun g => f (by have g : s = [46, 46] := by simpa only [br_iff, need_iff, andB_t, andB_f, orB_t, orB_f, notB_t, notB_f, leI_t, leI_f, ltI_t, ltI_f, eqI_t, eqI_f, leN_t, leN_f, eqN_t, eqN_f, eqS_t, eqS_f, eqB_t, eqB_f, catOk_t, leC_t] using g
                                        unfold validF; simp [g]), fun g3 => ?_⟩
    rw [br_iff]; refine ⟨fun g => f (by have g : 64 < s.length := by simp only [br_iff, need_iff, andB_t, andB_f, orB_t, orB_f, notB_t, notB_f, leI_t, leI_f, ltI_t, ltI_f, eqI_t, eqI_f, leN_t, leN_f, eqN_t, eqN_f, eqS_t, eqS_f, eqB_t, eqB_f, catOk_t, leC_t, lenS] at g; omega
                                        unfold validF; simp [g]), fun g4 => ?_⟩
    have g1 : ¬ s = [] := by simpa only [br_iff, need_iff, andB_t, andB_f, orB_t, orB_f, notB_t, notB_f, leI_t, leI_f, ltI_t, ltI_f, eqI_t, eqI_f, leN_t, leN_f, eqN_t, eqN_f, eqS_t, eqS_f, eqB_t, eqB_f, catOk_t, leC_t] using g1
    have g2 : ¬ s = [46] := by simpa only [br_iff, need_iff, andB_t, andB_f, orB_t, orB_f, notB_t, notB_f, leI_t, leI_f, ltI_t, ltI_f, eqI_t, eqI_f, leN_t, leN_f, eqN_t, eqN_f, eqS_t, eqS_f, eqB_t, eqB_f, catOk_t, leC_t] using g2
    have g3 : ¬ s = [46, 46] := by simpa only [br_iff, need_iff, andB_t, andB_f, orB_t, orB_f, notB_t, notB_f, leI_t, leI_f, ltI_t, ltI_f, eqI_t, eqI_f, leN_t, leN_f, eqN_t, eqN_f, eqS_t, eqS_f, eqB_t, eqB_f, catOk_t, leC_t] using g3
    have g4 : ¬ 64 < s.length := by simp only [br_iff, need_iff, andB_t, andB_f, orB_t, orB_f, notB_t, notB_f, leI_t, leI_f, ltI_t, ltI_f, eqI_t, eqI_f, leN_t, leN_f, eqN_t, eqN_f, eqS_t, eqS_f, eqB_t, eqB_f, catOk_t, leC_t, lenS] at g4; omega
    have ev : validF s = s.all (fun c => !badB (c.toNat : Int)) := by unfold validF; simp [g1, g2, g3, g4]
    refine ⟨⟨s.length, by omega, 0, rfl, by omega, by simp⟩, ?_⟩
    rintro _ m ⟨k, rfl, hk, hp⟩
    dsimp only
    rw [br_iff]
    refine ⟨fun hlt => ?_, fun hge => ?_⟩
    · have hlt : k < s.length := by simp only [br_iff, need_iff, andB_t, andB_f, orB_t, orB_f, notB_t, notB_f, leI_t, leI_f, ltI_t, ltI_f, eqI_t, eqI_f, leN_t, leN_f, eqN_t, eqN_f, eqS_t, eqS_f, eqB_t, eqB_f, catOk_t, leC_t, lenS] at hlt; omega
      have hn : andB (leI 0 (k : Int)) (ltI (k : Int) (lenS s)) = true := by simp only [br_iff, need_iff, andB_t, andB_f, orB_t, orB_f, notB_t, notB_f, leI_t, leI_f, ltI_t, ltI_f, eqI_t, eqI_f, leN_t, leN_f, eqN_t, eqN_f, eqS_t, eqS_f, eqB_t, eqB_f, catOk_t, leC_t, lenS]; omega
      obtain ⟨c, gc⟩ : ∃ c, s[k]? = some c := ⟨_, List.getElem?_eq_getElem hlt⟩
      have hmem := List.mem_of_getElem? gc
      rw [hn, need_tt, need_tt, need_tt, atS_get gc]
      have bad : badB (c.toNat : Int) = true → validF s = false := fun hb => by
        rw [ev, Bool.eq_false_iff]
        intro h
        have := List.all_eq_true.1 h c hmem
        rw [hb] at this; cases this
      rw [br_iff]; refine ⟨fun g => f (bad (by simp only [br_iff, need_iff, andB_t, andB_f, orB_t, orB_f, notB_t, notB_f, leI_t, leI_f, ltI_t, ltI_f, eqI_t, eqI_f, leN_t, leN_f, eqN_t, eqN_f, eqS_t, eqS_f, eqB_t, eqB_f, catOk_t, leC_t] at g; unfold badB; simp [g])), fun q1 => ?_⟩
      rw [br_iff]; refine ⟨fun g => f (bad (by simp only [br_iff, need_iff, andB_t, andB_f, orB_t, orB_f, notB_t, notB_f, leI_t, leI_f, ltI_t, ltI_f, eqI_t, eqI_f, leN_t, leN_f, eqN_t, eqN_f, eqS_t, eqS_f, eqB_t, eqB_f, catOk_t, leC_t] at g; unfold badB; simp [g])), fun q2 => ?_⟩
      rw [br_iff]; refine ⟨fun g => f (bad (by simp only [br_iff, need_iff, andB_t, andB_f, orB_t, orB_f, notB_t, notB_f, leI_t, leI_f, ltI_t, ltI_f, eqI_t, eqI_f, leN_t, leN_f, eqN_t, eqN_f, eqS_t, eqS_f, eqB_t, eqB_f, catOk_t, leC_t] at g; unfold badB; simp [g])), fun q3 => ?_⟩
      simp only [br_iff, need_iff, andB_t, andB_f, orB_t, orB_f, notB_t, notB_f, leI_t, leI_f, ltI_t, ltI_f, eqI_t, eqI_f, leN_t, leN_f, eqN_t, eqN_f, eqS_t, eqS_f, eqB_t, eqB_f, catOk_t, leC_t] at q1 q2 q3
      refine ⟨by trivial, m - 1, by omega, k + 1, by rw [addI_i64 (by omega) (by omega)]; rfl, by omega, ?_⟩
      obtain ⟨h1, rfl⟩ := List.getElem?_eq_some_iff.1 gc
      rw [List.take_succ_eq_append_getElem h1, List.all_append, hp]
      simp only [List.all_cons, List.all_nil, Bool.and_true, Bool.true_and]
      unfold badB
      simp [q1, q2, q3]
    · have : k = s.length := by simp only [br_iff, need_iff, andB_t, andB_f, orB_t, orB_f, notB_t, notB_f, leI_t, leI_f, ltI_t, ltI_f, eqI_t, eqI_f, leN_t, leN_f, eqN_t, eqN_f, eqS_t, eqS_f, eqB_t, eqB_f, catOk_t, leC_t, lenS] at hge; omega
      subst this
      rw [List.take_length] at hp
      exact f (ev.trans hp)
  · exact h.elim
theorem tx_con [MaxL] {n : Nat} (hn : 1 ≤ n) : ConOk (evalF Tryz.prog cfgN n) 20 txCon := by
  intro vs bs K h
  unfold txCon at h
  split at h
  · rename_i xs ys
    obtain ⟨l, r, rfl, rfl, h1, h2, hK⟩ := h
    refine run_of (lp := lpOf [(4, txL fun _ _ x m => ∃ k : Nat, x = ⟨(k : Int)⟩ ∧ k + m = l.length ∧ l.take k = r.take k)]) hn (fun k _ => noCt_ok _) ?_
    rw [tx_vc]
    have f : ∀ {b : Bool}, decide (l = r) = b → K (.bool b) [] := fun h => by subst h; exact hK
    simp only [strV_lenL]
    rw [br_iff]; refine ⟨fun g => f (by simp only [br_iff, need_iff, andB_t, andB_f, orB_t, orB_f, notB_t, notB_f, leI_t, leI_f, ltI_t, ltI_f, eqI_t, eqI_f, leN_t, leN_f, eqN_t, eqN_f, eqS_t, eqS_f, eqB_t, eqB_f, catOk_t, leC_t] at g; rw [decide_eq_false_iff_not]; rintro rfl; exact g rfl), fun g => ?_⟩
    have hl : l.length = r.length := by simp only [br_iff, need_iff, andB_t, andB_f, orB_t, orB_f, notB_t, notB_f, leI_t, leI_f, ltI_t, ltI_f, eqI_t, eqI_f, leN_t, leN_f, eqN_t, eqN_f, eqS_t, eqS_f, eqB_t, eqB_f, catOk_t, leC_t] at g; omega
    refine ⟨⟨l.length, by omega, 0, rfl, by omega, by simp⟩, ?_⟩
    rintro _ m ⟨k, rfl, hk, hp⟩
    dsimp only
    rw [br_iff]
    refine ⟨fun hlt => ?_, fun hge => ?_⟩
    · have hlt : k < l.length := by simp only [br_iff, need_iff, andB_t, andB_f, orB_t, orB_f, notB_t, notB_f, leI_t, leI_f, ltI_t, ltI_f, eqI_t, eqI_f, leN_t, leN_f, eqN_t, eqN_f, eqS_t, eqS_f, eqB_t, eqB_f, catOk_t, leC_t] at hlt; omega
      have hltb : k < r.length := by omega
      have ga : l[k]? = some l[k] := List.getElem?_eq_getElem hlt
      generalize l[k] = a at ga
      have ra := strV_row ga
      have ka : okRow (strV l) (Int.toNat (k : Int)) 1 = true := by simpa using strV_ok (l := l) (i := k) hlt
      have na : andB (leI 0 (k : Int)) (ltI (k : Int) (l.length : Int)) = true := by simp only [br_iff, need_iff, andB_t, andB_f, orB_t, orB_f, notB_t, notB_f, leI_t, leI_f, ltI_t, ltI_f, eqI_t, eqI_f, leN_t, leN_f, eqN_t, eqN_f, eqS_t, eqS_f, eqB_t, eqB_f, catOk_t, leC_t]; omega
      have gb : r[k]? = some r[k] := List.getElem?_eq_getElem hltb
      generalize r[k] = b at gb
      have rb := strV_row gb
      have kb : okRow (strV r) (Int.toNat (k : Int)) 1 = true := by simpa using strV_ok (l := r) (i := k) hltb
      have nb : andB (leI 0 (k : Int)) (ltI (k : Int) (r.length : Int)) = true := by simp only [br_iff, need_iff, andB_t, andB_f, orB_t, orB_f, notB_t, notB_f, leI_t, leI_f, ltI_t, ltI_f, eqI_t, eqI_f, leN_t, leN_f, eqN_t, eqN_f, eqS_t, eqS_f, eqB_t, eqB_f, catOk_t, leC_t]; omega
      rw [need_iff, need_iff]
      refine ⟨na, ka, ?_⟩
      try rw [ra]
      repeat apply Exists.intro
      refine ⟨rfl, ?_⟩
      rw [need_iff, need_iff]
      refine ⟨nb, kb, ?_⟩
      try rw [rb]
      repeat apply Exists.intro
      refine ⟨rfl, ?_⟩
      rw [br_iff]
      refine ⟨fun q => f (by
        simp only [br_iff, need_iff, andB_t, andB_f, orB_t, orB_f, notB_t, notB_f, leI_t, leI_f, ltI_t, ltI_f, eqI_t, eqI_f, leN_t, leN_f, eqN_t, eqN_f, eqS_t, eqS_f, eqB_t, eqB_f, catOk_t, leC_t] at q
        rw [decide_eq_false_iff_not]
        rintro rfl
        rw [ga] at gb
        injection gb with gb
        exact q gb), fun q => ?_⟩
      have q : a = b := by simpa only [br_iff, need_iff, andB_t, andB_f, orB_t, orB_f, notB_t, notB_f, leI_t, leI_f, ltI_t, ltI_f, eqI_t, eqI_f, leN_t, leN_f, eqN_t, eqN_f, eqS_t, eqS_f, eqB_t, eqB_f, catOk_t, leC_t, Decidable.not_not] using q
      refine ⟨by trivial, m - 1, by omega, k + 1, by rw [addI_i64 (by omega) (by omega)]; rfl, by omega, ?_⟩
      obtain ⟨g1, rfl⟩ := List.getElem?_eq_some_iff.1 ga
      obtain ⟨g2, rfl⟩ := List.getElem?_eq_some_iff.1 gb
      rw [List.take_succ_eq_append_getElem g1, List.take_succ_eq_append_getElem g2, hp, q]
    · have e1 : k = l.length := by simp only [br_iff, need_iff, andB_t, andB_f, orB_t, orB_f, notB_t, notB_f, leI_t, leI_f, ltI_t, ltI_f, eqI_t, eqI_f, leN_t, leN_f, eqN_t, eqN_f, eqS_t, eqS_f, eqB_t, eqB_f, catOk_t, leC_t] at hge; omega
      subst e1
      rw [List.take_length, hl, List.take_length] at hp
      exact f (by simpa using hp)
  · exact h.elim
/-- An own row that holds the first j of some elements. -/
def rowI (V' : List (List V)) (j a b : Nat) (ys : List (List V)) : Prop := ys = V' ∧ a = j ∧ b = j
theorem qu_con [MaxL] {n : Nat} (hn : 1 ≤ n) : ConOk (evalF Tryz.prog cfgN n) 142 quCon := by
  intro vs bs K h
  unfold quCon at h
  split at h
  · rename_i xs
    obtain ⟨l, rfl, h1, h2, hK⟩ := h
    refine run_of (lp := lpOf [(3, quL fun _ _ x m => ∃ k : Nat, x = ⟨valV (quoF (l.take k)), k, k, (k : Int)⟩ ∧ k + m = l.length)]) hn (fun k _ => noCt_ok _) ?_
    rw [qu_vc]
    simp only [strV_lenL]
    refine ⟨⟨l.length, by omega, 0, rfl, by omega⟩, ?_⟩
    rintro _ m ⟨k, rfl, hk⟩
    dsimp only
    have hql : (quoF (l.take k)).length = k := by unfold quoF; simp; omega
    rw [br_iff]
    refine ⟨fun hlt => ?_, fun hge => ?_⟩
    · have hlt : k < l.length := by simp only [br_iff, need_iff, andB_t, andB_f, orB_t, orB_f, notB_t, notB_f, leI_t, leI_f, ltI_t, ltI_f, eqI_t, eqI_f, leN_t, leN_f, eqN_t, eqN_f, eqS_t, eqS_f, eqB_t, eqB_f, catOk_t, leC_t] at hlt; omega
      have ga : l[k]? = some l[k] := List.getElem?_eq_getElem hlt
      generalize l[k] = a at ga
      have ra := strV_row ga
      have ka : okRow (strV l) (Int.toNat (k : Int)) 1 = true := by simpa using strV_ok (l := l) (i := k) hlt
      have na : andB (leI 0 (k : Int)) (ltI (k : Int) (l.length : Int)) = true := by simp only [br_iff, need_iff, andB_t, andB_f, orB_t, orB_f, notB_t, notB_f, leI_t, leI_f, ltI_t, ltI_f, eqI_t, eqI_f, leN_t, leN_f, eqN_t, eqN_f, eqS_t, eqS_f, eqB_t, eqB_f, catOk_t, leC_t]; omega
      have hal := h2 a (List.mem_of_getElem? ga)
      rw [need_iff, need_iff]
      refine ⟨na, ka, ?_⟩
      try rw [ra]
      repeat apply Exists.intro
      refine ⟨rfl, ?_⟩
      rw [need_iff]; refine ⟨by simp only [andB_tt, br_iff, need_iff, andB_t, andB_f, orB_t, orB_f, notB_t, notB_f, leI_t, leI_f, ltI_t, ltI_f, eqI_t, eqI_f, leN_t, leN_f, eqN_t, eqN_f, eqS_t, eqS_f, eqB_t, eqB_f, catOk_t, leC_t, lenS]; omega, ?_⟩
      rw [need_iff]; refine ⟨valV_head _, ?_⟩
      rw [br_iff]; refine ⟨fun q => by simp only [br_iff, need_iff, andB_t, andB_f, orB_t, orB_f, notB_t, notB_f, leI_t, leI_f, ltI_t, ltI_f, eqI_t, eqI_f, leN_t, leN_f, eqN_t, eqN_f, eqS_t, eqS_f, eqB_t, eqB_f, catOk_t, leC_t] at q; omega, fun _ => ?_⟩
      rw [need_iff]; refine ⟨by simp only [br_iff, need_iff, andB_t, andB_f, orB_t, orB_f, notB_t, notB_f, leI_t, leI_f, ltI_t, ltI_f, eqI_t, eqI_f, leN_t, leN_f, eqN_t, eqN_f, eqS_t, eqS_f, eqB_t, eqB_f, catOk_t, leC_t, valV_len, hql]; omega, ?_⟩
      rw [need_iff]; refine ⟨by simp only [br_iff, need_iff, andB_t, andB_f, orB_t, orB_f, notB_t, notB_f, leI_t, leI_f, ltI_t, ltI_f, eqI_t, eqI_f, leN_t, leN_f, eqN_t, eqN_f, eqS_t, eqS_f, eqB_t, eqB_f, catOk_t, leC_t]; omega, by trivial, m - 1, by omega, k + 1, ?_, by omega⟩
      rw [addI_i64 (by omega) (by omega)]
      have e : quoF (l.take (k + 1)) = quoF (l.take k) ++ [⟨a, marksOf a⟩] := by
        obtain ⟨g1, rfl⟩ := List.getElem?_eq_some_iff.1 ga
        unfold quoF; rw [List.take_succ_eq_append_getElem g1, List.map_append]; rfl
      rw [e, ← valV_app, List.drop_zero]
      simp only [lenS, Int.toNat_natCast]
      rfl
    · have : k = l.length := by simp only [br_iff, need_iff, andB_t, andB_f, orB_t, orB_f, notB_t, notB_f, leI_t, leI_f, ltI_t, ltI_f, eqI_t, eqI_f, leN_t, leN_f, eqN_t, eqN_f, eqS_t, eqS_f, eqB_t, eqB_f, catOk_t, leC_t] at hge; omega
      subst this
      rw [List.take_length] at hql ⊢
      rw [List.drop_zero, List.take_of_length_le (by rw [valV_len]; omega)]
      exact hK
  · exact h.elim
theorem te_con [MaxL] {n : Nat} (hn : 1 ≤ n) : ConOk (evalF Tryz.prog cfgN n) 65 teCon := by
  intro vs bs K h
  unfold teCon at h
  split at h
  · rename_i xs
    obtain ⟨l, rfl, h1, hK⟩ := h
    refine run_of (lp := lpOf [(3, quL fun _ _ x m => ∃ k : Nat, x = ⟨strV (textsF (l.take k)), k, k, (k : Int)⟩ ∧ k + m = l.length)]) hn (fun k _ => noCt_ok _) ?_
    rw [te_vc]
    simp only [valV_lenL]
    refine ⟨⟨l.length, by omega, 0, rfl, by omega⟩, ?_⟩
    rintro _ m ⟨k, rfl, hk⟩
    dsimp only
    have hql : (textsF (l.take k)).length = k := by unfold textsF; simp; omega
    rw [br_iff]
    refine ⟨fun hlt => ?_, fun hge => ?_⟩
    · have hlt : k < l.length := by simp only [br_iff, need_iff, andB_t, andB_f, orB_t, orB_f, notB_t, notB_f, leI_t, leI_f, ltI_t, ltI_f, eqI_t, eqI_f, leN_t, leN_f, eqN_t, eqN_f, eqS_t, eqS_f, eqB_t, eqB_f, catOk_t, leC_t] at hlt; omega
      have ga : l[k]? = some l[k] := List.getElem?_eq_getElem hlt
      generalize l[k] = a at ga
      have ra := valV_row ga
      have ka : okRow (valV l) (Int.toNat (k : Int)) 2 = true := by simpa using valV_ok (l := l) (i := k) hlt
      have na : andB (leI 0 (k : Int)) (ltI (k : Int) (l.length : Int)) = true := by simp only [br_iff, need_iff, andB_t, andB_f, orB_t, orB_f, notB_t, notB_f, leI_t, leI_f, ltI_t, ltI_f, eqI_t, eqI_f, leN_t, leN_f, eqN_t, eqN_f, eqS_t, eqS_f, eqB_t, eqB_f, catOk_t, leC_t]; omega
      rw [need_iff, need_iff]
      refine ⟨na, ka, ?_⟩
      try rw [ra]
      repeat apply Exists.intro
      refine ⟨rfl, ?_⟩
      rw [need_iff]; refine ⟨strV_head _, ?_⟩
      rw [br_iff]; refine ⟨fun q => by simp only [br_iff, need_iff, andB_t, andB_f, orB_t, orB_f, notB_t, notB_f, leI_t, leI_f, ltI_t, ltI_f, eqI_t, eqI_f, leN_t, leN_f, eqN_t, eqN_f, eqS_t, eqS_f, eqB_t, eqB_f, catOk_t, leC_t] at q; omega, fun _ => ?_⟩
      rw [need_iff]; refine ⟨by simp only [br_iff, need_iff, andB_t, andB_f, orB_t, orB_f, notB_t, notB_f, leI_t, leI_f, ltI_t, ltI_f, eqI_t, eqI_f, leN_t, leN_f, eqN_t, eqN_f, eqS_t, eqS_f, eqB_t, eqB_f, catOk_t, leC_t, strV_len, hql]; omega, ?_⟩
      rw [need_iff]; refine ⟨by simp only [br_iff, need_iff, andB_t, andB_f, orB_t, orB_f, notB_t, notB_f, leI_t, leI_f, ltI_t, ltI_f, eqI_t, eqI_f, leN_t, leN_f, eqN_t, eqN_f, eqS_t, eqS_f, eqB_t, eqB_f, catOk_t, leC_t]; omega, by trivial, m - 1, by omega, k + 1, ?_, by omega⟩
      rw [addI_i64 (by omega) (by omega)]
      have e : textsF (l.take (k + 1)) = textsF (l.take k) ++ [a.text] := by
        obtain ⟨g1, rfl⟩ := List.getElem?_eq_some_iff.1 ga
        unfold textsF; rw [List.take_succ_eq_append_getElem g1, List.map_append]; rfl
      rw [e, ← strV_app, List.drop_zero]
      rfl
    · have : k = l.length := by simp only [br_iff, need_iff, andB_t, andB_f, orB_t, orB_f, notB_t, notB_f, leI_t, leI_f, ltI_t, ltI_f, eqI_t, eqI_f, leN_t, leN_f, eqN_t, eqN_f, eqS_t, eqS_f, eqB_t, eqB_f, catOk_t, leC_t] at hge; omega
      subst this
      rw [List.take_length] at hql ⊢
      rw [List.drop_zero, List.take_of_length_le (by rw [strV_len]; omega)]
      exact hK
  · exact h.elim
theorem ix_con [MaxL] {n : Nat} (hn : 2 ≤ n) : ConOk (evalF Tryz.prog cfgN n) 210 ixCon := by
  intro vs bs K h
  unfold ixCon at h
  split at h
  · rename_i xs
    obtain ⟨l, rfl, h1, h2, hK⟩ := h
    refine run_of (lp := lpOf [(2, ixL fun _ _ x m => ∃ k : Nat, x = ⟨(k : Int)⟩ ∧ k + m = l.length ∧ zeroIn (l.take k) = false)]) (by omega) (ct := ctOf [(140, inlC Tryz.prog cfgN (ctOf []) 140)])
      (fun k hk => ctOf_ok (ctOf_cons (inl_ok (by omega) (fun _ _ => noCt_ok _)) (ctOf_nil _))) ?_
    rw [ix_vc]
    simp only [strV_lenL]
    refine ⟨⟨l.length, by omega, 0, rfl, by omega, rfl⟩, ?_⟩
    rintro _ m ⟨k, rfl, hk, hp⟩
    dsimp only
    rw [br_iff]
    refine ⟨fun hlt => ?_, fun hge => ?_⟩
    · have hlt : k < l.length := by simp only [br_iff, need_iff, andB_t, andB_f, orB_t, orB_f, notB_t, notB_f, leI_t, leI_f, ltI_t, ltI_f, eqI_t, eqI_f, leN_t, leN_f, eqN_t, eqN_f, eqS_t, eqS_f, eqB_t, eqB_f, catOk_t, leC_t] at hlt; omega
      have ga : l[k]? = some l[k] := List.getElem?_eq_getElem hlt
      generalize l[k] = a at ga
      have ra := strV_row ga
      have ka : okRow (strV l) (Int.toNat (k : Int)) 1 = true := by simpa using strV_ok (l := l) (i := k) hlt
      have na : andB (leI 0 (k : Int)) (ltI (k : Int) (l.length : Int)) = true := by simp only [br_iff, need_iff, andB_t, andB_f, orB_t, orB_f, notB_t, notB_f, leI_t, leI_f, ltI_t, ltI_f, eqI_t, eqI_f, leN_t, leN_f, eqN_t, eqN_f, eqS_t, eqS_f, eqB_t, eqB_f, catOk_t, leC_t]; omega
      have hal := h2 a (List.mem_of_getElem? ga)
      rw [need_iff, need_iff]
      refine ⟨na, ka, ?_⟩
      try rw [ra]
      repeat apply Exists.intro
      refine ⟨rfl, ?_⟩
      rw [need_iff]; refine ⟨by simpa using (by omega : a.length < 4294967281), ?_⟩
      have hz : ∀ b, decide (0 ≤ Lib.index a (ByteArray.mk #[0]).data.toList) = b → Lib.contains a [0] = b := fun b h => h
      rw [br_iff]
      refine ⟨fun q => hK _ ⟨fun _ => by omega, fun hz0 => ?_⟩, fun q => ?_⟩
      · have := hz _ q
        unfold zeroIn at hz0
        rw [List.any_eq_false] at hz0
        exact absurd this (hz0 a (List.mem_of_getElem? ga))
      · have := hz _ q
        refine ⟨by trivial, m - 1, by omega, k + 1, by rw [addI_i64 (by omega) (by omega)]; rfl, by omega, ?_⟩
        obtain ⟨g1, rfl⟩ := List.getElem?_eq_some_iff.1 ga
        unfold zeroIn at hp ⊢
        rw [List.take_succ_eq_append_getElem g1, List.any_append, hp]
        simp [this]
    · have : k = l.length := by simp only [br_iff, need_iff, andB_t, andB_f, orB_t, orB_f, notB_t, notB_f, leI_t, leI_f, ltI_t, ltI_f, eqI_t, eqI_f, leN_t, leN_f, eqN_t, eqN_f, eqS_t, eqS_f, eqB_t, eqB_f, catOk_t, leC_t] at hge; omega
      subst this
      rw [List.take_length] at hp
      exact hK _ ⟨fun h => (by rw [hp] at h; cases h), fun _ => rfl⟩
  · exact h.elim
end Go.Proofs.YthhpdnlfhofanaaGreatDoor
namespace Go.Proofs.YthhpdnlfhofanaaGreatDoor
open Go.RowKit
set_option maxRecDepth 100000
set_option linter.unusedVariables false
set_option linter.unusedSimpArgs false
def enCon : Con := fun vs bs K => match vs, bs with
  | [.lst xs], [] => ∃ l, xs = strV l ∧ l.length ≤ 300 ∧ longL l 100 ∧ ∀ t : List UInt8, K (.tup [.str t, .int .i64 (encF l)]) []
  | _, _ => False

def cpCon : Con := fun vs bs K => match vs, bs with
  | [.lst [], .int .i64 0, .int .i64 1], [] => K (.tup [.lst [[.int .i64 1, .int .i64 2, .lst []]], .int .i64 0]) []
  | _, _ => False


theorem en_vc [MaxL] (xs : List (List V)) (I : enC → enX → enX → Nat → Prop) (K : V → List Bk → Prop) : vcF Tryz.prog cfgN (ctOf [(139, inlC Tryz.prog cfgN (ctOf [(210, ixCon)]) 139)]) (lpOf [(9, enL I)]) 61 [.lst xs] [] K = (
  br (eqI (lenL xs) 0) (
    K (V.tup [V.str [], V.int IntKind.i64 1]) []) (
    br (ltI 256 (lenL xs)) (
      K (V.tup [V.str [], V.int IntKind.i64 22]) []) (
      ∃ l4 : List (List UInt8), ((xs : List (List V)) = strV l4) ∧ (
      (((l4.length : Nat) ≤ 300)) ∧ (
      (longL l4 1000) ∧ (
      ∀ i5 : Int, (zeroAt l4 i5) → (
      br (leI 0 i5) (
        K (V.tup [V.str [], V.int IntKind.i64 2]) []) (
        (∃ m6 : Nat, (((m6 : Nat) < 18446744073709551616)) ∧ (
        I (enC.mk xs xs (lenL xs)) (enX.mk (subI IntKind.i64 (lenL xs) 1) 0) (enX.mk (subI IntKind.i64 (lenL xs) 1) 0) m6)) ∧ (
        ∀ x6 : (enL I).X, ∀ m7 : Nat, (I (enC.mk xs xs (lenL xs)) (enX.mk (subI IntKind.i64 (lenL xs) 1) 0) x6 m7) → (
        br (ltI x6.2 (lenL xs)) (
          need (andB (leI 0 x6.2) (ltI x6.2 (lenL xs))) (
          need (okRow xs x6.2.toNat 1) (
          ∃ s8 : List UInt8, ((sub (rowAt xs x6.2) 0 1 : Option (List V)) = some [V.str s8]) ∧ (
          br (ltI 65536 (addI IntKind.i64 x6.1 (lenS s8))) (
            K (V.tup [V.str [], V.int IntKind.i64 4]) []) (
            ((enC.mk xs xs (lenL xs) : (enL I).C) = enC.mk xs xs (lenL xs)) ∧ (
            ∃ m'9 : Nat, (((m'9 : Nat) < m7)) ∧ (
            I (enC.mk xs xs (lenL xs)) (enX.mk (subI IntKind.i64 (lenL xs) 1) 0) (enX.mk (addI IntKind.i64 x6.1 (lenS s8)) (addI IntKind.i64 x6.2 1)) m'9))))))) (
          need (joinOk xs [0]) (
          K (V.tup [V.str (joinV xs [0]), V.int IntKind.i64 0]) [])))))))))))) := by kernel_rfl

noncomputable def ei1 [MaxL] : Con := inlC Tryz.prog cfgN (ctOf []) 133

noncomputable def ei2 [MaxL] : Con := inlL Tryz.prog cfgN (ctOf [(133, ei1)]) (lpOf [(2, unrL 2)]) 132

noncomputable def ei3 [MaxL] : Con := inlC Tryz.prog cfgN (ctOf [(132, ei2)]) 55

noncomputable def vi1 [MaxL] : Con := inlC Tryz.prog cfgN (ctOf []) 138

noncomputable def vi2 [MaxL] : Con := inlL Tryz.prog cfgN (ctOf [(138, vi1)]) (lpOf [(2, unrL 2)]) 137

noncomputable def vi3 [MaxL] : Con := inlC Tryz.prog cfgN (ctOf [(137, vi2)]) 59

theorem g0_vc [MaxL] (nx : Int) (nm : List UInt8) (K : V → List Bk → Prop) : vcF Tryz.prog cfgN (ctOf [(55, ei3), (59, vi3)]) (lpOf []) 152 [.lst [[.int .i64 1, .int .i64 nx, .lst []]], .int .i64 1, .str nm] [] K = (
  ∃ n4 : Int, ∃ n5 : Int, ∃ xs6 : List (List V), ((sub [V.int IntKind.i64 1, V.int IntKind.i64 nx, V.lst []] 0 3 : Option (List V)) = some [V.int IntKind.i64 n4, V.int IntKind.i64 n5, V.lst xs6]) ∧ (
  br (eqI n4 1) (
    ∃ n7 : Int, ∃ n8 : Int, ∃ xs9 : List (List V), ((sub [V.int IntKind.i64 1, V.int IntKind.i64 nx, V.lst []] 0 3 : Option (List V)) = some [V.int IntKind.i64 n7, V.int IntKind.i64 n8, V.lst xs9]) ∧ (
    br (ltI 0 (lenL xs9)) (
      need (andB true (ltI 0 (lenL xs9))) (
      need (okRow xs9 0 3) (
      ∃ n10 : Int, ∃ s11 : List UInt8, ∃ xs12 : List (List V), ((sub (rowAt xs9 0) 0 3 : Option (List V)) = some [V.int IntKind.i64 n10, V.str s11, V.lst xs12]) ∧ (
      br (eqS s11 nm) (
        ∃ xs13 : List (List V), ((sub [V.int IntKind.i64 1, V.int IntKind.i64 nx, V.lst []] 2 1 : Option (List V)) = some [V.lst xs13]) ∧ (
        need (andB true (ltI 0 (lenL xs13))) (
        need (okRow xs13 0 3) (
        ∃ xs14 : List (List V), ((sub (rowAt xs13 0) 2 1 : Option (List V)) = some [V.lst xs14]) ∧ (
        need (headOkP 1 xs14) (
        need (leN (xs14.length * 16) 140737488355328) (
        K (V.tup [V.lst (List.take xs14.length (List.drop 0 xs14)), V.bool true]) []))))))) (
        br (ltI 1 (lenL xs9)) (
          need (andB true (ltI 1 (lenL xs9))) (
          need (okRow xs9 1 3) (
          ∃ n13 : Int, ∃ s14 : List UInt8, ∃ xs15 : List (List V), ((sub (rowAt xs9 1) 0 3 : Option (List V)) = some [V.int IntKind.i64 n13, V.str s14, V.lst xs15]) ∧ (
          need (eqS s14 nm) (
          ∃ xs16 : List (List V), ((sub [V.int IntKind.i64 1, V.int IntKind.i64 nx, V.lst []] 2 1 : Option (List V)) = some [V.lst xs16]) ∧ (
          need (andB true (ltI 1 (lenL xs16))) (
          need (okRow xs16 1 3) (
          ∃ xs17 : List (List V), ((sub (rowAt xs16 1) 2 1 : Option (List V)) = some [V.lst xs17]) ∧ (
          need (headOkP 1 xs17) (
          need (leN (xs17.length * 16) 140737488355328) (
          K (V.tup [V.lst (List.take xs17.length (List.drop 0 xs17)), V.bool true]) []))))))))))) (
          K (V.tup [V.lst [], V.bool false]) [])))))) (
      K (V.tup [V.lst [], V.bool false]) []))) (
    K (V.tup [V.lst [], V.bool false]) []))) := by kernel_rfl

theorem g1_vc [MaxL] (nx : Int) (n : List UInt8) (xs : List (List V)) (nm : List UInt8) (K : V → List Bk → Prop) : vcF Tryz.prog cfgN (ctOf [(55, ei3), (59, vi3)]) (lpOf []) 152 [.lst [[.int .i64 1, .int .i64 nx, .lst [[.int .i64 2, .str n, .lst xs]]]], .int .i64 1, .str nm] [] K = (
  ∃ n6 : Int, ∃ n7 : Int, ∃ xs8 : List (List V), ((sub [V.int IntKind.i64 1, V.int IntKind.i64 nx, V.lst [[V.int IntKind.i64 2, V.str n, V.lst xs]]] 0 3 : Option (List V)) = some [V.int IntKind.i64 n6, V.int IntKind.i64 n7, V.lst xs8]) ∧ (
  br (eqI n6 1) (
    ∃ n9 : Int, ∃ n10 : Int, ∃ xs11 : List (List V), ((sub [V.int IntKind.i64 1, V.int IntKind.i64 nx, V.lst [[V.int IntKind.i64 2, V.str n, V.lst xs]]] 0 3 : Option (List V)) = some [V.int IntKind.i64 n9, V.int IntKind.i64 n10, V.lst xs11]) ∧ (
    br (ltI 0 (lenL xs11)) (
      need (andB true (ltI 0 (lenL xs11))) (
      need (okRow xs11 0 3) (
      ∃ n12 : Int, ∃ s13 : List UInt8, ∃ xs14 : List (List V), ((sub (rowAt xs11 0) 0 3 : Option (List V)) = some [V.int IntKind.i64 n12, V.str s13, V.lst xs14]) ∧ (
      br (eqS s13 nm) (
        ∃ xs15 : List (List V), ((sub [V.int IntKind.i64 1, V.int IntKind.i64 nx, V.lst [[V.int IntKind.i64 2, V.str n, V.lst xs]]] 2 1 : Option (List V)) = some [V.lst xs15]) ∧ (
        need (andB true (ltI 0 (lenL xs15))) (
        need (okRow xs15 0 3) (
        ∃ xs16 : List (List V), ((sub (rowAt xs15 0) 2 1 : Option (List V)) = some [V.lst xs16]) ∧ (
        need (headOkP 1 xs16) (
        need (leN (xs16.length * 16) 140737488355328) (
        K (V.tup [V.lst (List.take xs16.length (List.drop 0 xs16)), V.bool true]) []))))))) (
        br (ltI 1 (lenL xs11)) (
          need (andB true (ltI 1 (lenL xs11))) (
          need (okRow xs11 1 3) (
          ∃ n15 : Int, ∃ s16 : List UInt8, ∃ xs17 : List (List V), ((sub (rowAt xs11 1) 0 3 : Option (List V)) = some [V.int IntKind.i64 n15, V.str s16, V.lst xs17]) ∧ (
          need (eqS s16 nm) (
          ∃ xs18 : List (List V), ((sub [V.int IntKind.i64 1, V.int IntKind.i64 nx, V.lst [[V.int IntKind.i64 2, V.str n, V.lst xs]]] 2 1 : Option (List V)) = some [V.lst xs18]) ∧ (
          need (andB true (ltI 1 (lenL xs18))) (
          need (okRow xs18 1 3) (
          ∃ xs19 : List (List V), ((sub (rowAt xs18 1) 2 1 : Option (List V)) = some [V.lst xs19]) ∧ (
          need (headOkP 1 xs19) (
          need (leN (xs19.length * 16) 140737488355328) (
          K (V.tup [V.lst (List.take xs19.length (List.drop 0 xs19)), V.bool true]) []))))))))))) (
          K (V.tup [V.lst [], V.bool false]) [])))))) (
      K (V.tup [V.lst [], V.bool false]) []))) (
    K (V.tup [V.lst [], V.bool false]) []))) := by kernel_rfl

end Go.Proofs.YthhpdnlfhofanaaGreatDoor
namespace Go.Proofs.YthhpdnlfhofanaaGreatDoor
open Go.RowKit
set_option maxRecDepth 100000
set_option linter.unusedVariables false
set_option linter.unusedSimpArgs false
def getCon : Con := fun vs bs K => match vs, bs with
  | [.lst xs, .int .i64 1, .str nm], [] => ∃ (nx : Int) (E : Ev), xs = envV nx E ∧ smallE E ∧ K (.tup [.lst (strV (getF E nm).1), .bool (getF E nm).2]) []
  | _, _ => False

def vlCon : Con := fun vs bs K => match vs, bs with
  | [.lst xs, .int .i64 1, .str nm], [] => ∃ (nx : Int) (E : Ev), xs = envV nx E ∧ smallE E ∧ nm.length ≤ 1000 ∧ K (.lst (strV (valF E nm))) []
  | _, _ => False

def setCon : Con := fun vs bs K => match vs, bs with
  | [.lst [[.int .i64 1, .int .i64 2, .lst []]], .int .i64 1, .str nm, .lst xs], [] => ∃ l, xs = strV l ∧ l.length ≤ 300 ∧ longL l 100 ∧ nm.length ≤ 1000 ∧ K (.tup [.lst (envV (newE (setF nm l).1) (setF nm l).1), .int .i64 (setF nm l).2]) []
  | _, _ => False

def nmCon : Con := fun vs bs K => match vs, bs with
  | [.int .u8 c], [] => K (.bool (nmB c)) []
  | _, _ => False

def wdCon : Con := fun vs bs K => match vs, bs with
  | [.lst xs, .int .i64 1, .agg [.int .i64 k, .str nm, .str [], .lst [], .lst []]], [] => ∃ (nx : Int) (E : Ev), xs = envV nx E ∧ smallE E ∧ nm.length ≤ 1000 ∧ longL (valF E nm) 100 ∧ (valF E nm).length ≤ 300 ∧ kindOk k ∧
      K (.tup [.lst (strV (wdF k E nm)), .lst (strV (marksL (quoF (wdF k E nm)))), .int .i64 0]) []
  | _, _ => False

noncomputable def vr1 [MaxL] : Con := inlL Tryz.prog cfgN (ctOf []) (lpOf [(3, unrL 1)]) 56

noncomputable def cl1 [MaxL] : Con := inlL Tryz.prog cfgN (ctOf [(56, vr1)]) (lpOf [(3, unrL 2)]) 54

noncomputable def ad1 [MaxL] : Con := inlC Tryz.prog cfgN (ctOf [(56, vr1)]) 63

def st_vc_1 [MaxL] (nm : List UInt8) (xs : List (List V)) (K : V → List Bk → Prop) (xs5 : List (List V)) : Prop :=
  (
              br (eqI (lenL xs) 0) (
                K (V.tup [V.lst (List.take 1 (List.drop 0 xs5)), V.int IntKind.i64 0]) []) (
                ∃ l15 : List (List UInt8), ((xs : List (List V)) = strV l15) ∧ (
                (((l15.length : Nat) ≤ 300)) ∧ (
                (longL l15 100) ∧ (
                ∀ t16 : List UInt8, br (notB (eqI (encF l15) 0)) (
                  K (V.tup [V.lst (List.take 1 (List.drop 0 xs5)), V.int IntKind.i64 (encF l15)]) []) (
                  need (okRow xs5 0 3) (
                  ∃ n17 : Int, ∃ n18 : Int, ∃ xs19 : List (List V), ((partAt xs5 0 0 3 : Option (List V)) = some [V.int IntKind.i64 n17, V.int IntKind.i64 n18, V.lst xs19]) ∧ (
                  need (headOkP 1 xs) (
                  need (leN (xs.length * 16) 140737488355328) (
                  br (leI 64 (lenL xs19)) (
                    K (V.tup [V.lst (List.take 1 (List.drop 0 xs5)), V.int IntKind.i64 22]) []) (
                    br (ltI 1048575 n18) (
                      K (V.tup [V.lst (List.take 1 (List.drop 0 xs5)), V.int IntKind.i64 22]) []) (
                      need (headOkP 3 xs19) (
                      need (leN (xs19.length * 48) 140737488355328) (
                      br (ltI 0 (Int.ofNat xs19.length)) (
                        need (andB true (ltI 0 (Int.ofNat xs19.length))) (
                        need (okRow xs19 0 3) (
                        ∃ xs20 : List (List V), ((partAt xs19 0 2 1 : Option (List V)) = some [V.lst xs20]) ∧ (
                        need (headOkP 1 xs20) (
                        need (leN (xs20.length * 16) 140737488355328) (
                        need (andB true (ltI 0 (Int.ofNat xs19.length))) (
                        need (okRow xs19 0 3) (
                        ∃ xs21 : List (List V), ((putAt xs19 0 2 [V.lst (List.take xs20.length (List.drop 0 xs20))] : Option (List (List V))) = some xs21) ∧ (
                        False))))))))) (
                        need (headOkP 3 xs19) (
                        br (leN (xs19.length + 1) xs19.length) (
                          need (okRow xs5 0 3) (
                          ∃ xs20 : List (List V), ((putAt xs5 0 0 [V.int IntKind.i64 n17, V.int IntKind.i64 (addI IntKind.i64 n18 1), V.lst (List.take (xs19.length + 1) (List.drop 0 (List.take (0 + xs19.length) xs19 ++ [[V.int IntKind.i64 n18, V.str nm, V.lst (List.take xs.length (List.drop 0 xs))]] ++ List.drop (0 + xs19.length + 1) xs19)))] : Option (List (List V))) = some xs20) ∧ (
                          K (V.tup [V.lst (List.take 1 (List.drop 0 xs20)), V.int IntKind.i64 0]) []))) (
                          need (eqN (0 + xs19.length) xs19.length) (
                          need (leN ((xs19.length + 1) * 48) 140737488355328) (
                          need (okRow xs5 0 3) (
                          ∃ xs20 : List (List V), ((putAt xs5 0 0 [V.int IntKind.i64 n17, V.int IntKind.i64 (addI IntKind.i64 n18 1), V.lst (List.take (xs19.length + 1) (List.drop 0 (List.drop 0 xs19 ++ [[V.int IntKind.i64 n18, V.str nm, V.lst (List.take xs.length (List.drop 0 xs))]])))] : Option (List (List V))) = some xs20) ∧ (
                          K (V.tup [V.lst (List.take 1 (List.drop 0 xs20)), V.int IntKind.i64 0]) [])))))))))))))))))))))
theorem st_vc [MaxL] (nm : List UInt8) (xs : List (List V)) (K : V → List Bk → Prop) : vcF Tryz.prog cfgN (ctOf [(54, cl1), (55, ei3), (58, vaCon), (59, vi3), (61, enCon), (63, ad1)]) (lpOf []) 18 [.lst [[.int .i64 1, .int .i64 2, .lst []]], .int .i64 1, .str nm, .lst xs] [] K = (
  ∃ xs4 : List (List V), ((some [V.lst []] : Option (List V)) = some [V.lst xs4]) ∧ (
  need (headOkP 3 xs4) (
  need (leN (xs4.length * 48) 140737488355328) (
  br (ltI 0 (Int.ofNat xs4.length)) (
    need (andB true (ltI 0 (Int.ofNat xs4.length))) (
    need (okRow xs4 0 3) (
    ∃ xs5 : List (List V), ((partAt xs4 0 2 1 : Option (List V)) = some [V.lst xs5]) ∧ (
    need (headOkP 1 xs5) (
    need (leN (xs5.length * 16) 140737488355328) (
    need (andB true (ltI 0 (Int.ofNat xs4.length))) (
    need (okRow xs4 0 3) (
    ∃ xs6 : List (List V), ((putAt xs4 0 2 [V.lst (List.take xs5.length (List.drop 0 xs5))] : Option (List (List V))) = some xs6) ∧ (
    False))))))))) (
    ∃ xs5 : List (List V), ((putAt [[V.int IntKind.i64 1, V.int IntKind.i64 2, V.lst []]] 0 2 [V.lst (List.take xs4.length (List.drop 0 xs4))] : Option (List (List V))) = some xs5) ∧ (
    ∃ n6 : Int, ∃ n7 : Int, ∃ xs8 : List (List V), ((some [V.int IntKind.i64 1, V.int IntKind.i64 2, V.lst []] : Option (List V)) = some [V.int IntKind.i64 n6, V.int IntKind.i64 n7, V.lst xs8]) ∧ (
    br (eqI n6 1) (
      (((nm.length : Nat) ≤ 1000)) ∧ (
      br (notB (validF nm)) (
        K (V.tup [V.lst (List.take 1 (List.drop 0 xs5)), V.int IntKind.i64 6]) []) (
        need (okRow xs5 0 3) (
        ∃ n9 : Int, ∃ n10 : Int, ∃ xs11 : List (List V), ((partAt xs5 0 0 3 : Option (List V)) = some [V.int IntKind.i64 n9, V.int IntKind.i64 n10, V.lst xs11]) ∧ (
        br (ltI 0 (lenL xs11)) (
          need (andB true (ltI 0 (lenL xs11))) (
          need (okRow xs11 0 3) (
          ∃ n12 : Int, ∃ s13 : List UInt8, ∃ xs14 : List (List V), ((sub (rowAt xs11 0) 0 3 : Option (List V)) = some [V.int IntKind.i64 n12, V.str s13, V.lst xs14]) ∧ (
          br (eqS s13 nm) (
            br (eqI (lenL xs) 0) (
              need (okRow xs5 0 3) (
              ∃ xs15 : List (List V), ((partAt xs5 0 2 1 : Option (List V)) = some [V.lst xs15]) ∧ (
              False))) (
              ∃ l15 : List (List UInt8), ((xs : List (List V)) = strV l15) ∧ (
              (((l15.length : Nat) ≤ 300)) ∧ (
              (longL l15 100) ∧ (
              ∀ t16 : List UInt8, br (notB (eqI (encF l15) 0)) (
                K (V.tup [V.lst (List.take 1 (List.drop 0 xs5)), V.int IntKind.i64 (encF l15)]) []) (
                need (okRow xs5 0 3) (
                ∃ xs17 : List (List V), ((partAt xs5 0 2 1 : Option (List V)) = some [V.lst xs17]) ∧ (
                need (headOkP 1 xs) (
                need (leN (xs.length * 16) 140737488355328) (
                need (andB true (ltI 0 (lenL xs17))) (
                need (okRow xs17 0 3) (
                False)))))))))))) (
            br (ltI 1 (lenL xs11)) (
              need (andB true (ltI 1 (lenL xs11))) (
              need (okRow xs11 1 3) (
              ∃ n15 : Int, ∃ s16 : List UInt8, ∃ xs17 : List (List V), ((sub (rowAt xs11 1) 0 3 : Option (List V)) = some [V.int IntKind.i64 n15, V.str s16, V.lst xs17]) ∧ (
              need (eqS s16 nm) (
              br (eqI (lenL xs) 0) (
                need (okRow xs5 0 3) (
                ∃ xs18 : List (List V), ((partAt xs5 0 2 1 : Option (List V)) = some [V.lst xs18]) ∧ (
                False))) (
                ∃ l18 : List (List UInt8), ((xs : List (List V)) = strV l18) ∧ (
                (((l18.length : Nat) ≤ 300)) ∧ (
                (longL l18 100) ∧ (
                ∀ t19 : List UInt8, br (notB (eqI (encF l18) 0)) (
                  K (V.tup [V.lst (List.take 1 (List.drop 0 xs5)), V.int IntKind.i64 (encF l18)]) []) (
                  need (okRow xs5 0 3) (
                  ∃ xs20 : List (List V), ((partAt xs5 0 2 1 : Option (List V)) = some [V.lst xs20]) ∧ (
                  need (headOkP 1 xs) (
                  need (leN (xs.length * 16) 140737488355328) (
                  need (andB true (ltI 1 (lenL xs20))) (
                  need (okRow xs20 1 3) (
                  False)))))))))))))))) (st_vc_1 nm xs K xs5)))))) (st_vc_1 nm xs K xs5)))))) (
      K (V.tup [V.lst (List.take 1 (List.drop 0 xs5)), V.int IntKind.i64 1]) [])))))))) := by kernel_rfl

theorem vl_vc [MaxL] (xs : List (List V)) (nm : List UInt8) (K : V → List Bk → Prop) : vcF Tryz.prog cfgN (ctOf [(152, getCon)]) (lpOf []) 73 [.lst xs, .int .i64 1, .str nm] [] K = (
  need (decide (nm.length ≤ 100000)) (
  br (numB nm) (
    ∃ nx4 : Int, ∃ E5 : Ev, ((xs : List (List V)) = [[V.int IntKind.i64 1, V.int IntKind.i64 nx4, V.lst (varV E5)]]) ∧ (
    (smallE E5) ∧ (
    br (ltI (lenL (strV (getF E5 (ByteArray.mk #[42]).data.toList).1)) (numV nm)) (
      K (V.lst []) []) (
      need (headOkP 1 (strV (getF E5 (ByteArray.mk #[42]).data.toList).1)) (
      need (andB (leI 0 (numV nm)) (leI (numV nm) (lenL (strV (getF E5 (ByteArray.mk #[42]).data.toList).1)))) (
      need (andB (leI 0 (subI IntKind.i64 (numV nm) 1)) (leI (subI IntKind.i64 (numV nm) 1) (numV nm))) (
      K (V.lst (cutL (strV (getF E5 (ByteArray.mk #[42]).data.toList).1) (subI IntKind.i64 (numV nm) 1) (numV nm))) []))))))) (
    ∃ nx4 : Int, ∃ E5 : Ev, ((xs : List (List V)) = [[V.int IntKind.i64 1, V.int IntKind.i64 nx4, V.lst (varV E5)]]) ∧ (
    (smallE E5) ∧ (
    K (V.lst (strV (getF E5 nm).1)) []))))) := by kernel_rfl

def nm_vc_2 [MaxL] (c : Int) (K : V → List Bk → Prop) : Prop :=
  (
          br (leI 48 c) (
            br (leI c 57) (
              K (V.bool true) []) (
              br (eqI c 95) (
                K (V.bool true) []) (
                K (V.bool (eqI c 42)) []))) (
            br (eqI c 95) (
              K (V.bool true) []) (
              K (V.bool (eqI c 42)) [])))
def nm_vc_1 [MaxL] (c : Int) (K : V → List Bk → Prop) : Prop :=
  (
      br (leI 65 c) (
        br (leI c 90) (
          K (V.bool true) []) (nm_vc_2 c K)) (nm_vc_2 c K))
theorem nm_vc [MaxL] (c : Int) (K : V → List Bk → Prop) : vcF Tryz.prog cfgN (ctOf []) (lpOf []) 70 [.int .u8 c] [] K = (
  br (leI 97 c) (
    br (leI c 122) (
      K (V.bool true) []) (nm_vc_1 c K)) (nm_vc_1 c K)) := by kernel_rfl

end Go.Proofs.YthhpdnlfhofanaaGreatDoor
namespace Go.Proofs.YthhpdnlfhofanaaGreatDoor
open Go.RowKit
set_option maxRecDepth 100000
set_option linter.unusedVariables false
set_option linter.unusedSimpArgs false
theorem strsOf_strV (l : List (List UInt8)) : strsOf (strV l) = some l := strsOf_map l
theorem joinV_strV (l : List (List UInt8)) (sep : List UInt8) : joinV (strV l) sep = Lib.join l sep := by unfold joinV; rw [strsOf_strV]
theorem lens_le : ∀ {l : List (List UInt8)} {n : Nat}, longL l n → Lib.lens l ≤ l.length * n
  | [], n, h => by simp [Lib.lens]
  | s :: t, n, h => by
    have h1 := h s (List.mem_cons_self ..)
    have h2 := lens_le (l := t) (n := n) fun x hx => h x (List.mem_cons_of_mem _ hx)
    simp only [Lib.lens, List.map_cons, List.sum_cons, List.length_cons] at h2 ⊢
    rw [Nat.add_mul]
    omega
theorem join_le {l : List (List UInt8)} {n : Nat} {sep : List UInt8} (h : longL l n) (hs : sep.length = 1) : (Lib.join l sep).length ≤ l.length * (n + 1) := by
  cases l with
  | nil => simp [Lib.join_nil]
  | cons x r =>
    rw [Lib.join_length, hs]
    have := lens_le h
    simp only [List.length_cons] at *
    have e : (r.length + 1) * (n + 1) = (r.length + 1) * n + (r.length + 1) := by rw [Nat.mul_add]; omega
    omega
theorem joinOk_strV {l : List (List UInt8)} {sep : List UInt8} {n : Nat} (h : longL l n) (hs : sep.length = 1) (hl : l.length ≤ 300) (hn : n ≤ 100000) : joinOk (strV l) sep = true := by
  unfold joinOk
  rw [strsOf_strV]
  have := join_le h hs
  have h2 : l.length * (n + 1) ≤ 300 * 100001 := Nat.mul_le_mul hl (by omega)
  simp only [Bool.and_eq_true, decide_eq_true_eq]
  omega
theorem ei_ok [MaxL] {m : Nat} (hm : 3 ≤ m) : ConOk (evalF Tryz.prog cfgN m) 55 ei3 :=
  inl_ok (by omega) fun k hk => ctOf_ok (ctOf_cons (inlL_ok (by omega) fun k2 hk2 => ctOf_ok (ctOf_cons (inl_ok (by omega) fun _ _ => noCt_ok _) (ctOf_nil _))) (ctOf_nil _))
theorem vi_ok [MaxL] {m : Nat} (hm : 3 ≤ m) : ConOk (evalF Tryz.prog cfgN m) 59 vi3 :=
  inl_ok (by omega) fun k hk => ctOf_ok (ctOf_cons (inlL_ok (by omega) fun k2 hk2 => ctOf_ok (ctOf_cons (inl_ok (by omega) fun _ _ => noCt_ok _) (ctOf_nil _))) (ctOf_nil _))
theorem vr_ok [MaxL] {m : Nat} (hm : 1 ≤ m) : ConOk (evalF Tryz.prog cfgN m) 56 vr1 := inlL_ok hm fun _ _ => noCt_ok _
theorem cl_ok [MaxL] {m : Nat} (hm : 2 ≤ m) : ConOk (evalF Tryz.prog cfgN m) 54 cl1 := inlL_ok (by omega) fun k hk => ctOf_ok (ctOf_cons (vr_ok (by omega)) (ctOf_nil _))
theorem ad_ok [MaxL] {m : Nat} (hm : 2 ≤ m) : ConOk (evalF Tryz.prog cfgN m) 63 ad1 := inl_ok (by omega) fun k hk => ctOf_ok (ctOf_cons (vr_ok (by omega)) (ctOf_nil _))
theorem g_con [MaxL] {n : Nat} (hn : 4 ≤ n) : ConOk (evalF Tryz.prog cfgN n) 152 getCon := by
  intro vs bs K h
  unfold getCon at h
  split at h
  · rename_i xs nm
    obtain ⟨nx, E, rfl, hE, hK⟩ := h
    refine run_of (lp := lpOf []) (by omega) (ct := ctOf [(55, ei3), (59, vi3)]) (fun k hk => ctOf_ok (ctOf_cons (ei_ok (by omega)) (ctOf_cons (vi_ok (by omega)) (ctOf_nil _)))) ?_
    have f : ∀ {r}, getF E nm = r → K (.tup [.lst (strV r.1), .bool r.2]) [] := fun h => by subst h; exact hK
    cases E with
    | none =>
      refine cast (g0_vc nx nm K).symm ?_
      refine ⟨1, nx, [], rfl, ?_⟩
      rw [br_iff]; refine ⟨fun _ => ?_, fun g => absurd g (by decide)⟩
      refine ⟨1, nx, [], rfl, ?_⟩
      rw [br_iff]; exact ⟨fun g => absurd g (by decide), fun _ => hK⟩
    | some q =>
      obtain ⟨n', l⟩ := q
      have hl := (hE n' l rfl).1
      refine cast (g1_vc nx n' (strV l) nm K).symm ?_
      refine ⟨1, nx, _, rfl, ?_⟩
      rw [br_iff]; refine ⟨fun _ => ?_, fun g => absurd g (by decide)⟩
      refine ⟨1, nx, _, rfl, ?_⟩
      rw [br_iff]; refine ⟨fun _ => ?_, fun g => by simp only [br_iff, need_iff, andB_t, andB_f, orB_t, orB_f, notB_t, notB_f, leI_t, leI_f, ltI_t, ltI_f, eqI_t, eqI_f, leN_t, leN_f, eqN_t, eqN_f, eqS_t, eqS_f, eqB_t, eqB_f, catOk_t, leC_t, lenL, List.length_singleton] at g; omega⟩
      rw [need_iff]; refine ⟨by simp only [andB_tt, br_iff, need_iff, andB_t, andB_f, orB_t, orB_f, notB_t, notB_f, leI_t, leI_f, ltI_t, ltI_f, eqI_t, eqI_f, leN_t, leN_f, eqN_t, eqN_f, eqS_t, eqS_f, eqB_t, eqB_f, catOk_t, leC_t, lenL, List.length_singleton]; omega, ?_⟩
      rw [need_iff]; refine ⟨rfl, 2, n', strV l, rfl, ?_⟩
      rw [br_iff]; refine ⟨fun g => ?_, fun g => ?_⟩
      · have g : n' = nm := by simpa only [br_iff, need_iff, andB_t, andB_f, orB_t, orB_f, notB_t, notB_f, leI_t, leI_f, ltI_t, ltI_f, eqI_t, eqI_f, leN_t, leN_f, eqN_t, eqN_f, eqS_t, eqS_f, eqB_t, eqB_f, catOk_t, leC_t] using g
        refine ⟨_, rfl, ?_⟩
        rw [need_iff]; refine ⟨by simp only [andB_tt, br_iff, need_iff, andB_t, andB_f, orB_t, orB_f, notB_t, notB_f, leI_t, leI_f, ltI_t, ltI_f, eqI_t, eqI_f, leN_t, leN_f, eqN_t, eqN_f, eqS_t, eqS_f, eqB_t, eqB_f, catOk_t, leC_t, lenL, List.length_singleton]; omega, ?_⟩
        rw [need_iff]; refine ⟨rfl, strV l, rfl, ?_⟩
        rw [need_iff]; refine ⟨strV_head _, ?_⟩
        rw [need_iff]; refine ⟨by simp only [br_iff, need_iff, andB_t, andB_f, orB_t, orB_f, notB_t, notB_f, leI_t, leI_f, ltI_t, ltI_f, eqI_t, eqI_f, leN_t, leN_f, eqN_t, eqN_f, eqS_t, eqS_f, eqB_t, eqB_f, catOk_t, leC_t, strV_len]; omega, ?_⟩
        rw [List.drop_zero, strV_len, strV_all]
        exact f (r := (l, true)) (by unfold getF; simp only; rw [if_pos g])
      · have g : ¬ n' = nm := by simpa only [br_iff, need_iff, andB_t, andB_f, orB_t, orB_f, notB_t, notB_f, leI_t, leI_f, ltI_t, ltI_f, eqI_t, eqI_f, leN_t, leN_f, eqN_t, eqN_f, eqS_t, eqS_f, eqB_t, eqB_f, catOk_t, leC_t] using g
        rw [br_iff]; exact ⟨fun q => by simp only [br_iff, need_iff, andB_t, andB_f, orB_t, orB_f, notB_t, notB_f, leI_t, leI_f, ltI_t, ltI_f, eqI_t, eqI_f, leN_t, leN_f, eqN_t, eqN_f, eqS_t, eqS_f, eqB_t, eqB_f, catOk_t, leC_t, lenL, List.length_singleton] at q; omega, fun _ => f (r := ([], false)) (by unfold getF; simp only; rw [if_neg g])⟩
  · exact h.elim
theorem en_con [MaxL] {n : Nat} (hn : 4 ≤ n) : ConOk (evalF Tryz.prog cfgN n) 61 enCon := by
  intro vs bs K h
  unfold enCon at h
  split at h
  · rename_i xs
    obtain ⟨l, rfl, h1, h2, hK⟩ := h
    refine run_of (lp := lpOf [(9, enL fun _ _ x m => ∃ k : Nat, ∃ c : Int, x = ⟨c, (k : Int)⟩ ∧ k + m = l.length ∧ 0 ≤ c ∧ c ≤ 300 + 100 * k)]) (by omega) (ct := ctOf [(139, inlC Tryz.prog cfgN (ctOf [(210, ixCon)]) 139)])
      (fun k hk => ctOf_ok (ctOf_cons (inl_ok (by omega) fun k2 hk2 => ctOf_ok (ctOf_cons (ix_con (by omega)) (ctOf_nil _))) (ctOf_nil _))) ?_
    rw [en_vc]
    have f : ∀ {e : Int}, encF l = e → ∀ t, K (.tup [.str t, .int .i64 e]) [] := fun h t => by subst h; exact hK t
    simp only [strV_lenL]
    rw [br_iff]; refine ⟨fun g => f (by have g : l = [] := by simp only [br_iff, need_iff, andB_t, andB_f, orB_t, orB_f, notB_t, notB_f, leI_t, leI_f, ltI_t, ltI_f, eqI_t, eqI_f, leN_t, leN_f, eqN_t, eqN_f, eqS_t, eqS_f, eqB_t, eqB_f, catOk_t, leC_t] at g; exact List.length_eq_zero_iff.1 (by omega)
                                        unfold encF; rw [if_pos g]) _, fun g1 => ?_⟩
    have g1 : ¬ l = [] := fun e => by subst e; simp [br_iff, need_iff, andB_t, andB_f, orB_t, orB_f, notB_t, notB_f, leI_t, leI_f, ltI_t, ltI_f, eqI_t, eqI_f, leN_t, leN_f, eqN_t, eqN_f, eqS_t, eqS_f, eqB_t, eqB_f, catOk_t, leC_t] at g1
    have hpos : 0 < l.length := List.length_pos_iff.2 g1
    rw [br_iff]; refine ⟨fun g => f (by have g : 256 < l.length := by simp only [br_iff, need_iff, andB_t, andB_f, orB_t, orB_f, notB_t, notB_f, leI_t, leI_f, ltI_t, ltI_f, eqI_t, eqI_f, leN_t, leN_f, eqN_t, eqN_f, eqS_t, eqS_f, eqB_t, eqB_f, catOk_t, leC_t] at g; omega
                                        unfold encF; rw [if_neg g1, if_pos g]) _, fun g2 => ?_⟩
    have g2 : ¬ 256 < l.length := by simp only [br_iff, need_iff, andB_t, andB_f, orB_t, orB_f, notB_t, notB_f, leI_t, leI_f, ltI_t, ltI_f, eqI_t, eqI_f, leN_t, leN_f, eqN_t, eqN_f, eqS_t, eqS_f, eqB_t, eqB_f, catOk_t, leC_t] at g2; omega
    refine ⟨l, rfl, h1, fun s hs => by have := h2 s hs; omega, fun i hz => ?_⟩
    rw [br_iff]; refine ⟨fun g => ?_, fun g => ?_⟩
    · have g : 0 ≤ i := by simpa only [br_iff, need_iff, andB_t, andB_f, orB_t, orB_f, notB_t, notB_f, leI_t, leI_f, ltI_t, ltI_f, eqI_t, eqI_f, leN_t, leN_f, eqN_t, eqN_f, eqS_t, eqS_f, eqB_t, eqB_f, catOk_t, leC_t] using g
      have hzt : zeroIn l = true := by
        cases hq : zeroIn l with
        | true => rfl
        | false => have := hz.2 hq; omega
      exact f (by unfold encF; rw [if_neg g1, if_neg g2, if_pos hzt]) _
    have g : ¬ 0 ≤ i := by simp only [br_iff, need_iff, andB_t, andB_f, orB_t, orB_f, notB_t, notB_f, leI_t, leI_f, ltI_t, ltI_f, eqI_t, eqI_f, leN_t, leN_f, eqN_t, eqN_f, eqS_t, eqS_f, eqB_t, eqB_f, catOk_t, leC_t] at g; omega
    have hzt : ¬ zeroIn l = true := fun hq => g (hz.1 hq)
    have e0 : encF l = 0 := by unfold encF; rw [if_neg g1, if_neg g2, if_neg hzt]
    refine ⟨⟨l.length, by omega, 0, (l.length : Int) - 1, by rw [subI_i64 (by omega) (by omega)]; rfl, by omega, by omega, by omega⟩, ?_⟩
    rintro _ m ⟨k, c, rfl, hk, hc0, hc⟩
    dsimp only
    rw [br_iff]
    refine ⟨fun hlt => ?_, fun hge => ?_⟩
    · have hlt : k < l.length := by simp only [br_iff, need_iff, andB_t, andB_f, orB_t, orB_f, notB_t, notB_f, leI_t, leI_f, ltI_t, ltI_f, eqI_t, eqI_f, leN_t, leN_f, eqN_t, eqN_f, eqS_t, eqS_f, eqB_t, eqB_f, catOk_t, leC_t] at hlt; omega
      have ga : l[k]? = some l[k] := List.getElem?_eq_getElem hlt
      generalize l[k] = a at ga
      have ra := strV_row ga
      have ka : okRow (strV l) (Int.toNat (k : Int)) 1 = true := by simpa using strV_ok (l := l) (i := k) hlt
      have na : andB (leI 0 (k : Int)) (ltI (k : Int) (l.length : Int)) = true := by simp only [br_iff, need_iff, andB_t, andB_f, orB_t, orB_f, notB_t, notB_f, leI_t, leI_f, ltI_t, ltI_f, eqI_t, eqI_f, leN_t, leN_f, eqN_t, eqN_f, eqS_t, eqS_f, eqB_t, eqB_f, catOk_t, leC_t]; omega
      have hal := h2 a (List.mem_of_getElem? ga)
      rw [need_iff, need_iff]
      refine ⟨na, ka, ?_⟩
      try rw [ra]
      repeat apply Exists.intro
      refine ⟨rfl, ?_⟩
      rw [addI_i64 (by simp only [lenS]; omega) (by simp only [lenS]; omega)]
      rw [br_iff]; refine ⟨fun q => by simp only [br_iff, need_iff, andB_t, andB_f, orB_t, orB_f, notB_t, notB_f, leI_t, leI_f, ltI_t, ltI_f, eqI_t, eqI_f, leN_t, leN_f, eqN_t, eqN_f, eqS_t, eqS_f, eqB_t, eqB_f, catOk_t, leC_t, lenS] at q; omega, fun _ => ⟨by trivial, m - 1, by omega, k + 1, c + (a.length : Int), by rw [addI_i64 (by omega) (by omega)]; rfl, by omega, by omega, by omega⟩⟩
    · rw [need_iff]; exact ⟨joinOk_strV h2 rfl h1 (by omega), f e0 _⟩
  · exact h.elim
theorem nm_con [MaxL] {n : Nat} (hn : 1 ≤ n) : ConOk (evalF Tryz.prog cfgN n) 70 nmCon := by
  intro vs bs K h
  unfold nmCon at h
  split at h
  · rename_i c
    refine run_of (lp := lpOf []) hn (fun k _ => noCt_ok _) ?_
    rw [nm_vc]
    have f : ∀ {b : Bool}, nmB c = b → K (.bool b) [] := fun q => by subst q; exact h
    have e2 : nm_vc_2 c K ∨ 97 ≤ c ∧ c ≤ 122 ∨ 65 ≤ c ∧ c ≤ 90 := by
      by_cases q : 97 ≤ c ∧ c ≤ 122 ∨ 65 ≤ c ∧ c ≤ 90
      · exact .inr q
      · refine .inl ?_
        unfold nm_vc_2
        have last : ∀ b, eqI c 95 = false → eqI c 42 = b → ¬ (48 ≤ c ∧ c ≤ 57) → K (.bool b) [] := fun b h1 h2 h3 => f (by
          subst h2
          unfold nmB
          simp only [br_iff, need_iff, andB_t, andB_f, orB_t, orB_f, notB_t, notB_f, leI_t, leI_f, ltI_t, ltI_f, eqI_t, eqI_f, leN_t, leN_f, eqN_t, eqN_f, eqS_t, eqS_f, eqB_t, eqB_f, catOk_t, leC_t] at h1
          have : (decide (97 ≤ c) && decide (c ≤ 122)) = false := by simp; omega
          have : (decide (65 ≤ c) && decide (c ≤ 90)) = false := by simp; omega
          have : (decide (48 ≤ c) && decide (c ≤ 57)) = false := by simp; omega
          simp [*, eqI])
        rw [br_iff]; refine ⟨fun g => ?_, fun g => ?_⟩
        · rw [br_iff]; refine ⟨fun g2 => f (by simp only [br_iff, need_iff, andB_t, andB_f, orB_t, orB_f, notB_t, notB_f, leI_t, leI_f, ltI_t, ltI_f, eqI_t, eqI_f, leN_t, leN_f, eqN_t, eqN_f, eqS_t, eqS_f, eqB_t, eqB_f, catOk_t, leC_t] at g g2; unfold nmB; simp [g, g2]), fun g2 => ?_⟩
          rw [br_iff]; refine ⟨fun g3 => f (by simp only [br_iff, need_iff, andB_t, andB_f, orB_t, orB_f, notB_t, notB_f, leI_t, leI_f, ltI_t, ltI_f, eqI_t, eqI_f, leN_t, leN_f, eqN_t, eqN_f, eqS_t, eqS_f, eqB_t, eqB_f, catOk_t, leC_t] at g3; unfold nmB; simp [g3]), fun g3 => last _ g3 rfl (by simp only [br_iff, need_iff, andB_t, andB_f, orB_t, orB_f, notB_t, notB_f, leI_t, leI_f, ltI_t, ltI_f, eqI_t, eqI_f, leN_t, leN_f, eqN_t, eqN_f, eqS_t, eqS_f, eqB_t, eqB_f, catOk_t, leC_t] at g2; omega)⟩
        · rw [br_iff]; refine ⟨fun g3 => f (by simp only [br_iff, need_iff, andB_t, andB_f, orB_t, orB_f, notB_t, notB_f, leI_t, leI_f, ltI_t, ltI_f, eqI_t, eqI_f, leN_t, leN_f, eqN_t, eqN_f, eqS_t, eqS_f, eqB_t, eqB_f, catOk_t, leC_t] at g3; unfold nmB; simp [g3]), fun g3 => last _ g3 rfl (by simp only [br_iff, need_iff, andB_t, andB_f, orB_t, orB_f, notB_t, notB_f, leI_t, leI_f, ltI_t, ltI_f, eqI_t, eqI_f, leN_t, leN_f, eqN_t, eqN_f, eqS_t, eqS_f, eqB_t, eqB_f, catOk_t, leC_t] at g; omega)⟩
    have e1 : nm_vc_1 c K ∨ 97 ≤ c ∧ c ≤ 122 := by
      by_cases q : 97 ≤ c ∧ c ≤ 122
      · exact .inr q
      · refine .inl ?_
        unfold nm_vc_1
        rw [br_iff]; refine ⟨fun g => ?_, fun g => ?_⟩
        · rw [br_iff]; refine ⟨fun g2 => f (by simp only [br_iff, need_iff, andB_t, andB_f, orB_t, orB_f, notB_t, notB_f, leI_t, leI_f, ltI_t, ltI_f, eqI_t, eqI_f, leN_t, leN_f, eqN_t, eqN_f, eqS_t, eqS_f, eqB_t, eqB_f, catOk_t, leC_t] at g g2; unfold nmB; simp [g, g2]), fun g2 => e2.resolve_right (by simp only [br_iff, need_iff, andB_t, andB_f, orB_t, orB_f, notB_t, notB_f, leI_t, leI_f, ltI_t, ltI_f, eqI_t, eqI_f, leN_t, leN_f, eqN_t, eqN_f, eqS_t, eqS_f, eqB_t, eqB_f, catOk_t, leC_t] at g2; omega)⟩
        · exact e2.resolve_right (by simp only [br_iff, need_iff, andB_t, andB_f, orB_t, orB_f, notB_t, notB_f, leI_t, leI_f, ltI_t, ltI_f, eqI_t, eqI_f, leN_t, leN_f, eqN_t, eqN_f, eqS_t, eqS_f, eqB_t, eqB_f, catOk_t, leC_t] at g; omega)
    rw [br_iff]; refine ⟨fun g => ?_, fun g => ?_⟩
    · rw [br_iff]; refine ⟨fun g2 => f (by simp only [br_iff, need_iff, andB_t, andB_f, orB_t, orB_f, notB_t, notB_f, leI_t, leI_f, ltI_t, ltI_f, eqI_t, eqI_f, leN_t, leN_f, eqN_t, eqN_f, eqS_t, eqS_f, eqB_t, eqB_f, catOk_t, leC_t] at g g2; unfold nmB; simp [g, g2]), fun g2 => e1.resolve_right (by simp only [br_iff, need_iff, andB_t, andB_f, orB_t, orB_f, notB_t, notB_f, leI_t, leI_f, ltI_t, ltI_f, eqI_t, eqI_f, leN_t, leN_f, eqN_t, eqN_f, eqS_t, eqS_f, eqB_t, eqB_f, catOk_t, leC_t] at g2; omega)⟩
    · exact e1.resolve_right (by simp only [br_iff, need_iff, andB_t, andB_f, orB_t, orB_f, notB_t, notB_f, leI_t, leI_f, ltI_t, ltI_f, eqI_t, eqI_f, leN_t, leN_f, eqN_t, eqN_f, eqS_t, eqS_f, eqB_t, eqB_f, catOk_t, leC_t] at g; omega)
  · exact h.elim
theorem getF_small {E : Ev} (hE : smallE E) (nm : List UInt8) : (getF E nm).1.length ≤ 300 := by
  cases E with
  | none => simp [getF]
  | some q =>
    obtain ⟨n, l⟩ := q
    have := (hE n l rfl).1
    unfold getF
    simp only
    split
    · exact this
    · simp
theorem numB_ge {s : List UInt8} (h : numB s = true) : 1 ≤ numV s ∧ numV s ≤ 256 ∧ textN 10 (numV s) = s := by
  unfold numB at h
  unfold numV
  cases hq : Lib.atoiAll s with
  | ok v =>
    rw [hq] at h
    simp only [Bool.and_eq_true, decide_eq_true_eq] at h ⊢
    exact ⟨h.1.1, h.1.2, h.2⟩
  | _ => rw [hq] at h; cases h
theorem vl_con [MaxL] {n : Nat} (hn : 5 ≤ n) : ConOk (evalF Tryz.prog cfgN n) 73 vlCon := by
  intro vs bs K h
  unfold vlCon at h
  split at h
  · rename_i xs nm
    obtain ⟨nx, E, rfl, hE, hnm, hK⟩ := h
    refine run_of (lp := lpOf []) (by omega) (ct := ctOf [(152, getCon)]) (fun k hk => ctOf_ok (ctOf_cons (g_con (by omega)) (ctOf_nil _))) ?_
    rw [vl_vc]
    have f : ∀ {r}, valF E nm = r → K (.lst (strV r)) [] := fun h => by subst h; exact hK
    rw [need_iff]; refine ⟨by simpa using (by omega : nm.length ≤ 100000), ?_⟩
    rw [br_iff]; refine ⟨fun g => ?_, fun g => ⟨nx, E, rfl, hE, f (by unfold valF; rw [if_neg (by rw [g]; decide)])⟩⟩
    have hnb := numB_ge g
    refine ⟨nx, E, rfl, hE, ?_⟩
    have e42 : (ByteArray.mk #[42]).data.toList = ([42] : List UInt8) := rfl
    simp only [e42, strV_lenL]
    rw [br_iff]; refine ⟨fun q => f (r := []) (by unfold valF; rw [if_pos g, if_pos (by simpa only [br_iff, need_iff, andB_t, andB_f, orB_t, orB_f, notB_t, notB_f, leI_t, leI_f, ltI_t, ltI_f, eqI_t, eqI_f, leN_t, leN_f, eqN_t, eqN_f, eqS_t, eqS_f, eqB_t, eqB_f, catOk_t, leC_t] using q)]), fun q => ?_⟩
    have q : ¬ ((getF E [42]).1.length : Int) < numV nm := by simp only [br_iff, need_iff, andB_t, andB_f, orB_t, orB_f, notB_t, notB_f, leI_t, leI_f, ltI_t, ltI_f, eqI_t, eqI_f, leN_t, leN_f, eqN_t, eqN_f, eqS_t, eqS_f, eqB_t, eqB_f, catOk_t, leC_t] at q; omega
    rw [need_iff]; refine ⟨strV_head _, ?_⟩
    rw [need_iff]; refine ⟨by simp only [br_iff, need_iff, andB_t, andB_f, orB_t, orB_f, notB_t, notB_f, leI_t, leI_f, ltI_t, ltI_f, eqI_t, eqI_f, leN_t, leN_f, eqN_t, eqN_f, eqS_t, eqS_f, eqB_t, eqB_f, catOk_t, leC_t]; omega, ?_⟩
    rw [subI_i64 (by omega) (by omega)]
    rw [need_iff]; refine ⟨by simp only [br_iff, need_iff, andB_t, andB_f, orB_t, orB_f, notB_t, notB_f, leI_t, leI_f, ltI_t, ltI_f, eqI_t, eqI_f, leN_t, leN_f, eqN_t, eqN_f, eqS_t, eqS_f, eqB_t, eqB_f, catOk_t, leC_t]; omega, ?_⟩
    unfold cutL
    rw [strV_drop, strV_take]
    exact f (by unfold valF; rw [if_pos g, if_neg q])
  · exact h.elim
theorem st_con [MaxL] {n : Nat} (hn : 6 ≤ n) : ConOk (evalF Tryz.prog cfgN n) 18 setCon := by
  intro vs bs K h
  unfold setCon at h
  split at h
  · rename_i nm xs
    obtain ⟨l, rfl, h1, h2, hnm, hK⟩ := h
    refine run_of (lp := lpOf []) (by omega) (ct := ctOf [(54, cl1), (55, ei3), (58, vaCon), (59, vi3), (61, enCon), (63, ad1)])
      (fun k hk => ctOf_ok (ctOf_cons (cl_ok (by omega)) (ctOf_cons (ei_ok (by omega)) (ctOf_cons (va_con (by omega)) (ctOf_cons (vi_ok (by omega)) (ctOf_cons (en_con (by omega)) (ctOf_cons (ad_ok (by omega)) (ctOf_nil _)))))))) ?_
    rw [st_vc]
    have f : ∀ {r}, setF nm l = r → K (.tup [.lst (envV (newE r.1) r.1), .int .i64 r.2]) [] := fun h => by subst h; exact hK
    refine ⟨[], rfl, ?_⟩
    rw [need_iff]; refine ⟨rfl, ?_⟩
    rw [need_iff]; refine ⟨by decide, ?_⟩
    rw [br_iff]; refine ⟨fun g => absurd g (by decide), fun _ => ⟨[[.int .i64 1, .int .i64 2, .lst []]], rfl, 1, 2, [], rfl, ?_⟩⟩
    rw [br_iff]; refine ⟨fun _ => ⟨hnm, ?_⟩, fun g => absurd g (by decide)⟩
    rw [br_iff]; refine ⟨fun g => f (r := (none, 6)) (by have g : validF nm = false := by simpa [notB] using g
                                                         unfold setF; rw [if_pos g]), fun g => ?_⟩
    have g : ¬ validF nm = false := by simpa [notB] using g
    rw [need_iff]; refine ⟨rfl, 1, 2, [], rfl, ?_⟩
    rw [br_iff]; refine ⟨fun q => absurd q (by decide), fun _ => ?_⟩
    unfold st_vc_1
    simp only [strV_lenL]
    rw [br_iff]; refine ⟨fun q => f (r := (none, 0)) (by have q : l = [] := by simp only [br_iff, need_iff, andB_t, andB_f, orB_t, orB_f, notB_t, notB_f, leI_t, leI_f, ltI_t, ltI_f, eqI_t, eqI_f, leN_t, leN_f, eqN_t, eqN_f, eqS_t, eqS_f, eqB_t, eqB_f, catOk_t, leC_t] at q; exact List.length_eq_zero_iff.1 (by omega)
                                                         unfold setF; rw [if_neg g, if_pos q]), fun q => ?_⟩
    have q : ¬ l = [] := fun e => by subst e; simp [br_iff, need_iff, andB_t, andB_f, orB_t, orB_f, notB_t, notB_f, leI_t, leI_f, ltI_t, ltI_f, eqI_t, eqI_f, leN_t, leN_f, eqN_t, eqN_f, eqS_t, eqS_f, eqB_t, eqB_f, catOk_t, leC_t] at q
    refine ⟨l, rfl, h1, h2, fun t => ?_⟩
    rw [br_iff]; refine ⟨fun g3 => f (r := (none, encF l)) (by simp only [br_iff, need_iff, andB_t, andB_f, orB_t, orB_f, notB_t, notB_f, leI_t, leI_f, ltI_t, ltI_f, eqI_t, eqI_f, leN_t, leN_f, eqN_t, eqN_f, eqS_t, eqS_f, eqB_t, eqB_f, catOk_t, leC_t] at g3; unfold setF; rw [if_neg g, if_neg q, if_neg g3]), fun g3 => ?_⟩
    have g3 : encF l = 0 := by simpa [notB, eqI] using g3
    rw [need_iff]; refine ⟨rfl, 1, 2, [], rfl, ?_⟩
    rw [need_iff]; refine ⟨strV_head _, ?_⟩
    rw [need_iff]; refine ⟨by simp only [br_iff, need_iff, andB_t, andB_f, orB_t, orB_f, notB_t, notB_f, leI_t, leI_f, ltI_t, ltI_f, eqI_t, eqI_f, leN_t, leN_f, eqN_t, eqN_f, eqS_t, eqS_f, eqB_t, eqB_f, catOk_t, leC_t, strV_len]; omega, ?_⟩
    rw [br_iff]; refine ⟨fun q => absurd q (by decide), fun _ => ?_⟩
    rw [br_iff]; refine ⟨fun q => absurd q (by decide), fun _ => ?_⟩
    rw [need_iff]; refine ⟨rfl, ?_⟩
    rw [need_iff]; refine ⟨by decide, ?_⟩
    rw [br_iff]; refine ⟨fun q => absurd q (by decide), fun _ => ?_⟩
    rw [need_iff]; refine ⟨rfl, ?_⟩
    rw [br_iff]; refine ⟨fun q => absurd q (by decide), fun _ => ?_⟩
    rw [need_iff]; refine ⟨rfl, ?_⟩
    rw [need_iff]; refine ⟨by decide, ?_⟩
    rw [need_iff]; refine ⟨rfl, _, rfl, ?_⟩
    have := f (r := (some (nm, l), 0)) (by unfold setF; rw [if_neg g, if_neg q, if_pos g3])
    simpa [envV, varV, newE, strV_len, strV_all, show addI .i64 2 1 = 3 from rfl] using this
  · exact h.elim
end Go.Proofs.YthhpdnlfhofanaaGreatDoor
