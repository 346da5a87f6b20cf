/- Line editors: conditions. -/
import Derived.Test.YtdbbpibfejchfaaGreatDoorWinBase
namespace Go.Proofs.YtdbbpibfejchfaaGreatDoor
open Go.RowKit
set_option maxRecDepth 100000
set_option linter.unusedVariables false
set_option linter.unusedSimpArgs false
def prCon : Con := fun vs bs K => match vs, bs with
  | [.int .u8 c], [] => K (.bool (prB c)) []
  | _, _ => False

def blCon : Con := fun vs bs K => match vs, bs with
  | [.int .u8 c], [] => K (.bool (blB c)) []
  | _, _ => False

def ixCon : Con := fun vs bs K => match vs, bs with
  | [.lst xs, .func 88 [] []], [] => ∃ l : List (List UInt8), xs = strV l ∧ l.length ≤ 100000 ∧ ∀ i, decide (0 ≤ i) = anyLong l → K (.int .i64 i) []
  | _, _ => False

def coCon : Con := fun vs bs K => match vs, bs with
  | [.lst xs, .func 88 [] []], [] => ∃ l : List (List UInt8), xs = strV l ∧ l.length ≤ 100000 ∧ K (.bool (anyLong l)) []
  | _, _ => False

def rgCon : Con := fun vs bs K => match vs, bs with
  | [.agg [.bool r, .str t, .lst xs]], [] => ∃ l : List (List UInt8), xs = strV l ∧ l.length ≤ 100000 ∧ t.length ≤ 100000 ∧ K (.bool (rightL ⟨r, t, l⟩)) []
  | _, _ => False

def ownCon : Con := fun vs bs K => match vs, bs with
  | [.agg [.bool r, .str t, .lst xs]], [] => ∃ l : List (List UInt8), xs = strV l ∧ l.length ≤ 100000 ∧ K (.agg [.bool r, .str t, .ref 0 0 l.length l.length]) [⟨true, false, true, strV l, 0⟩]
  | _, _ => False

def delivCon : Con := fun vs bs K => match vs, bs with
  | [.ptr 0 0 0, .str s], [⟨true, true, true, [[.bool r, .str t, .ref 1 0 n k]], 0⟩, ⟨true, false, true, ys, 0⟩] => ∃ l : List (List UInt8), ys = strV l ∧ n = l.length ∧ k = l.length ∧ l.length ≤ 100000 ∧
      br (ltI l.length 1024) (K (.bool true) [⟨true, true, true, [[.bool r, .str t, .ref 2 0 (l.length + 1) (l.length + 1)]], 0⟩, ⟨false, false, true, [], 0⟩, ⟨true, false, true, strV (l ++ [s]), 0⟩])
        (K (.bool false) [⟨true, true, true, [[.bool r, .str t, .ref 1 0 n k]], 0⟩, ⟨true, false, true, strV l, 0⟩])
  | _, _ => False

def erasedCon : Con := fun vs bs K => match vs, bs with
  | [.str t, .int .u8 c], [] => t.length ≤ 100000 ∧ K (.int .i64 (Int.ofNat (erasedN t c))) []
  | _, _ => False

def wordCon : Con := fun vs bs K => match vs, bs with
  | [.str t], [] => t.length ≤ 100000 ∧ K (.int .i64 (Int.ofNat (wordN t))) []
  | _, _ => False

def typedCon : Con := fun vs bs K => match vs, bs with
  | [.ptr 0 0 0, .int .u8 c], [⟨true, true, true, [[.bool r, .str t, .ref 1 0 n k]], 0⟩, ⟨true, false, true, ys, 0⟩] => ∃ l : List (List UInt8), ys = strV l ∧ n = l.length ∧ k = l.length ∧ rightL ⟨r, t, l⟩ = true ∧ 0 ≤ c ∧ c ≤ 255 ∧
      K (.str (typeF ⟨r, t, l⟩ c).2) [⟨true, true, true, [[.bool (typeF ⟨r, t, l⟩ c).1.raw, .str (typeF ⟨r, t, l⟩ c).1.text, .ref 1 0 (typeF ⟨r, t, l⟩ c).1.ready.length (typeF ⟨r, t, l⟩ c).1.ready.length]], 0⟩, ⟨true, false, true, strV (typeF ⟨r, t, l⟩ c).1.ready, 0⟩] ∧
      K (.str (typeF ⟨r, t, l⟩ c).2) [⟨true, true, true, [[.bool (typeF ⟨r, t, l⟩ c).1.raw, .str (typeF ⟨r, t, l⟩ c).1.text, .ref 2 0 (typeF ⟨r, t, l⟩ c).1.ready.length (typeF ⟨r, t, l⟩ c).1.ready.length]], 0⟩, ⟨false, false, true, [], 0⟩, ⟨true, false, true, strV (typeF ⟨r, t, l⟩ c).1.ready, 0⟩]
  | _, _ => False

def typeCon : Con := fun vs bs K => match vs, bs with
  | [.agg [.bool r, .str t, .lst xs], .int .u8 c], [] => ∃ l : List (List UInt8), xs = strV l ∧ rightL ⟨r, t, l⟩ = true ∧ 0 ≤ c ∧ c ≤ 255 ∧ K (.tup [.agg (typeF ⟨r, t, l⟩ c).1.v, .str (typeF ⟨r, t, l⟩ c).2]) []
  | _, _ => False

def feedCon : Con := fun vs bs K => match vs, bs with
  | [.agg [.bool r, .str t, .lst xs], .str s], [] => ∃ l : List (List UInt8), xs = strV l ∧ rightL ⟨r, t, l⟩ = true ∧ s.length ≤ 100000 ∧ K (.tup [.agg (feedF ⟨r, t, l⟩ s).1.v, .str (feedF ⟨r, t, l⟩ s).2]) []
  | _, _ => False

def readCon : Con := fun vs bs K => match vs, bs with
  | [.agg [.bool r, .str t, .lst xs], .int .i64 n], [] => ∃ l : List (List UInt8), xs = strV l ∧ rightL ⟨r, t, l⟩ = true ∧ K (.tup [.agg (readF ⟨r, t, l⟩ n).1.v, .str (readF ⟨r, t, l⟩ n).2.1, .bool (readF ⟨r, t, l⟩ n).2.2]) []
  | _, _ => False

def setRawCon : Con := fun vs bs K => match vs, bs with
  | [.agg [.bool r, .str t, .lst xs], .bool b], [] => ∃ l : List (List UInt8), xs = strV l ∧ rightL ⟨r, t, l⟩ = true ∧ K (.agg (setRawF ⟨r, t, l⟩ b).v) []
  | _, _ => False

def rdelivCon : Con := fun vs bs K => match vs, bs with
  | [.agg [.bool r, .str t, .lst xs], .str s], [] => ∃ l : List (List UInt8), xs = strV l ∧ l.length ≤ 100000 ∧
      br (ltI l.length 1024) (K (.tup [.agg [.bool r, .str [], .lst (strV (l ++ [s]))], .bool true]) []) (K (.tup [.agg [.bool r, .str t, .lst (strV l)], .bool false]) [])
  | _, _ => False

def reraseCon : Con := fun vs bs K => match vs, bs with
  | [.agg [.bool r, .str t, .lst xs], .int .i64 n], [] => t.length ≤ 100000 ∧ 0 ≤ n ∧ n ≤ t.length ∧ K (.tup [.agg [.bool r, .str (t.take (t.length - n.toNat)), .lst xs], .str (rub n.toNat)]) []
  | _, _ => False

structure ifsC where
  xs : List (List V)
  cnt : Int
structure ifsX where
  i : Int
def ifsSt (c : ifsC) (x : ifsX) : St := ⟨[(0, .lst c.xs), (1, .func 88 [] []), (7, .int .i64 c.cnt), (8, .int .i64 x.i)], []⟩
set_option maxHeartbeats 4000000 in
def ifsUn (s : St) : Option (ifsC × ifsX) :=
  match s with
  | ⟨[(q0, .lst xs), (q1, .func q2 [] []), (q3, .int .i64 cnt), (q4, .int .i64 i)], []⟩ => bif Nat.beq q0 0 && Nat.beq q1 1 && Nat.beq q2 88 && Nat.beq q3 7 && Nat.beq q4 8 then some (⟨xs, cnt⟩, ⟨i⟩) else none
  | _ => none
set_option maxHeartbeats 4000000 in
def ifsL (inv : ifsC → ifsX → ifsX → Nat → Prop) : LoopS where
  C := ifsC
  X := ifsX
  st := ifsSt
  un := ifsUn
  ok := by
    intro s c x h
    unfold ifsUn at h
    split at h
    · simp only [Bool.cond_eq_ite] at h
      split at h
      · rename_i hg
        simp only [Bool.and_eq_true, Nat.beq_eq] at hg
        obtain ⟨⟨⟨⟨rfl, rfl⟩, rfl⟩, rfl⟩, rfl⟩ := hg
        cases h
        rfl
      · cases h
    · cases h
  inv := inv

structure rgC where
  r : Bool
  t : List UInt8
  xs : List (List V)
  cnt : Int
structure rgX where
  i : Int
def rgSt (c : rgC) (x : rgX) : St := ⟨[(1, .ptr 0 0 0), (25, .int .i64 c.cnt), (26, .int .i64 x.i)], [(0, ⟨true, true, true, [[.bool c.r, .str c.t, .lst c.xs]], 0⟩)]⟩
set_option maxHeartbeats 4000000 in
def rgUn (s : St) : Option (rgC × rgX) :=
  match s with
  | ⟨[(q0, .ptr q1 q2 q3), (q4, .int .i64 cnt), (q5, .int .i64 i)], [(q6, ⟨true, true, true, [[.bool r, .str t, .lst xs]], q7⟩)]⟩ => bif Nat.beq q0 1 && Nat.beq q1 0 && Nat.beq q2 0 && Nat.beq q3 0 && Nat.beq q4 25 && Nat.beq q5 26 && Nat.beq q6 0 && Nat.beq q7 0 then some (⟨r, t, xs, cnt⟩, ⟨i⟩) else none
  | _ => none
set_option maxHeartbeats 4000000 in
def rgL (inv : rgC → rgX → rgX → Nat → Prop) : LoopS where
  C := rgC
  X := rgX
  st := rgSt
  un := rgUn
  ok := by
    intro s c x h
    unfold rgUn at h
    split at h
    · simp only [Bool.cond_eq_ite] at h
      split at h
      · rename_i hg
        simp only [Bool.and_eq_true, Nat.beq_eq] at hg
        obtain ⟨⟨⟨⟨⟨⟨⟨rfl, rfl⟩, rfl⟩, rfl⟩, rfl⟩, rfl⟩, rfl⟩, rfl⟩ := hg
        cases h
        rfl
      · cases h
    · cases h
  inv := inv

structure rraC where
  r : Bool
  t : List UInt8
  xs : List (List V)
structure rraX where
  i : Int
def rraSt (c : rraC) (x : rraX) : St := ⟨[(1, .ptr 0 0 0), (3, .int .i64 x.i)], [(0, ⟨true, true, true, [[.bool c.r, .str c.t, .lst c.xs]], 0⟩)]⟩
set_option maxHeartbeats 4000000 in
def rraUn (s : St) : Option (rraC × rraX) :=
  match s with
  | ⟨[(q0, .ptr q1 q2 q3), (q4, .int .i64 i)], [(q5, ⟨true, true, true, [[.bool r, .str t, .lst xs]], q6⟩)]⟩ => bif Nat.beq q0 1 && Nat.beq q1 0 && Nat.beq q2 0 && Nat.beq q3 0 && Nat.beq q4 3 && Nat.beq q5 0 && Nat.beq q6 0 then some (⟨r, t, xs⟩, ⟨i⟩) else none
  | _ => none
set_option maxHeartbeats 4000000 in
def rraL (inv : rraC → rraX → rraX → Nat → Prop) : LoopS where
  C := rraC
  X := rraX
  st := rraSt
  un := rraUn
  ok := by
    intro s c x h
    unfold rraUn at h
    split at h
    · simp only [Bool.cond_eq_ite] at h
      split at h
      · rename_i hg
        simp only [Bool.and_eq_true, Nat.beq_eq] at hg
        obtain ⟨⟨⟨⟨⟨⟨rfl, rfl⟩, rfl⟩, rfl⟩, rfl⟩, rfl⟩, rfl⟩ := hg
        cases h
        rfl
      · cases h
    · cases h
  inv := inv

structure rrbC where
  r : Bool
  t : List UInt8
  xs : List (List V)
structure rrbX where
  i : Int
def rrbSt (c : rrbC) (x : rrbX) : St := ⟨[(1, .ptr 0 0 0), (4, .int .i64 x.i)], [(0, ⟨true, true, true, [[.bool c.r, .str c.t, .lst c.xs]], 0⟩)]⟩
set_option maxHeartbeats 4000000 in
def rrbUn (s : St) : Option (rrbC × rrbX) :=
  match s with
  | ⟨[(q0, .ptr q1 q2 q3), (q4, .int .i64 i)], [(q5, ⟨true, true, true, [[.bool r, .str t, .lst xs]], q6⟩)]⟩ => bif Nat.beq q0 1 && Nat.beq q1 0 && Nat.beq q2 0 && Nat.beq q3 0 && Nat.beq q4 4 && Nat.beq q5 0 && Nat.beq q6 0 then some (⟨r, t, xs⟩, ⟨i⟩) else none
  | _ => none
set_option maxHeartbeats 4000000 in
def rrbL (inv : rrbC → rrbX → rrbX → Nat → Prop) : LoopS where
  C := rrbC
  X := rrbX
  st := rrbSt
  un := rrbUn
  ok := by
    intro s c x h
    unfold rrbUn at h
    split at h
    · simp only [Bool.cond_eq_ite] at h
      split at h
      · rename_i hg
        simp only [Bool.and_eq_true, Nat.beq_eq] at hg
        obtain ⟨⟨⟨⟨⟨⟨rfl, rfl⟩, rfl⟩, rfl⟩, rfl⟩, rfl⟩, rfl⟩ := hg
        cases h
        rfl
      · cases h
    · cases h
  inv := inv

structure erC where
  t : List UInt8
structure erX where
  n : Int
def erSt (c : erC) (x : erX) : St := ⟨[(0, .str c.t), (5, .int .i64 x.n)], []⟩
set_option maxHeartbeats 4000000 in
def erUn (s : St) : Option (erC × erX) :=
  match s with
  | ⟨[(q0, .str t), (q1, .int .i64 n)], []⟩ => bif Nat.beq q0 0 && Nat.beq q1 5 then some (⟨t⟩, ⟨n⟩) else none
  | _ => none
set_option maxHeartbeats 4000000 in
def erL (inv : erC → erX → erX → Nat → Prop) : LoopS where
  C := erC
  X := erX
  st := erSt
  un := erUn
  ok := by
    intro s c x h
    unfold erUn at h
    split at h
    · simp only [Bool.cond_eq_ite] at h
      split at h
      · rename_i hg
        simp only [Bool.and_eq_true, Nat.beq_eq] at hg
        obtain ⟨rfl, rfl⟩ := hg
        cases h
        rfl
      · cases h
    · cases h
  inv := inv

structure fdC where
  s : List UInt8
  cnt : Int
  bt : Nat
  tw : Nat
structure fdX where
  r : Bool
  t : List UInt8
  n : Nat
  k : Nat
  ys : List (List V)
  bn : Nat
  bk : Nat
  es : List (List V)
  i : Int
def fdSt (c : fdC) (x : fdX) : St := ⟨[(1, .str c.s), (4, .ptr 0 0 0), (6, .ptr 1 0 0), (7, .ptr 2 0 0), (12, .int .i64 c.cnt), (13, .int .i64 x.i)], [(0, ⟨true, true, true, [[.bool false, .str [], .nils]], 0⟩), (1, ⟨true, true, true, [[.bool x.r, .str x.t, .ref 3 0 x.n x.k]], 0⟩), (2, ⟨true, true, true, [[.slf 2, .ref 4 0 x.bn x.bk]], c.bt⟩), (3, ⟨true, false, true, x.ys, 0⟩), (4, ⟨true, false, true, x.es, c.tw⟩)]⟩
set_option maxHeartbeats 4000000 in
def fdUn (s : St) : Option (fdC × fdX) :=
  match s with
  | ⟨[(q0, .str s), (q1, .ptr q2 q3 q4), (q5, .ptr q6 q7 q8), (q9, .ptr q10 q11 q12), (q13, .int .i64 cnt), (q14, .int .i64 i)], [(q15, ⟨true, true, true, [[.bool false, .str [], .nils]], q16⟩), (q17, ⟨true, true, true, [[.bool r, .str t, .ref q18 q19 n k]], q20⟩), (q21, ⟨true, true, true, [[.slf q22, .ref q23 q24 bn bk]], bt⟩), (q25, ⟨true, false, true, ys, q26⟩), (q27, ⟨true, false, true, es, tw⟩)]⟩ => bif Nat.beq q0 1 && Nat.beq q1 4 && Nat.beq q2 0 && Nat.beq q3 0 && Nat.beq q4 0 && Nat.beq q5 6 && Nat.beq q6 1 && Nat.beq q7 0 && Nat.beq q8 0 && Nat.beq q9 7 && Nat.beq q10 2 && Nat.beq q11 0 && Nat.beq q12 0 && Nat.beq q13 12 && Nat.beq q14 13 && Nat.beq q15 0 && Nat.beq q16 0 && Nat.beq q17 1 && Nat.beq q18 3 && Nat.beq q19 0 && Nat.beq q20 0 && Nat.beq q21 2 && Nat.beq q22 2 && Nat.beq q23 4 && Nat.beq q24 0 && Nat.beq q25 3 && Nat.beq q26 0 && Nat.beq q27 4 then some (⟨s, cnt, bt, tw⟩, ⟨r, t, n, k, ys, bn, bk, es, i⟩) else none
  | _ => none
set_option maxHeartbeats 4000000 in
def fdL (inv : fdC → fdX → fdX → Nat → Prop) : LoopS where
  C := fdC
  X := fdX
  st := fdSt
  un := fdUn
  ok := by
    intro s c x h
    unfold fdUn at h
    split at h
    · simp only [Bool.cond_eq_ite] at h
      split at h
      · rename_i hg
        simp only [Bool.and_eq_true, Nat.beq_eq] at hg
        obtain ⟨⟨⟨⟨⟨⟨⟨⟨⟨⟨⟨⟨⟨⟨⟨⟨⟨⟨⟨⟨⟨⟨⟨⟨⟨⟨⟨rfl, rfl⟩, rfl⟩, rfl⟩, rfl⟩, rfl⟩, rfl⟩, rfl⟩, rfl⟩, rfl⟩, rfl⟩, rfl⟩, rfl⟩, rfl⟩, rfl⟩, rfl⟩, rfl⟩, rfl⟩, rfl⟩, rfl⟩, rfl⟩, rfl⟩, rfl⟩, rfl⟩, rfl⟩, rfl⟩, rfl⟩, rfl⟩ := hg
        cases h
        rfl
      · cases h
    · cases h
  inv := inv

theorem pr_vc (c : Int) (K : V → List Bk → Prop) : vcF Tryz.prog cfgN (ctOf []) (lpOf []) 86 [.int .u8 c] [] K = (
  br (eqI c 9) (
    K (V.bool true) []) (
    br (leI 32 c) (
      K (V.bool (notB (eqI c 127))) []) (
      K (V.bool false) []))) := by kernel_rfl

theorem rpr_vc (c : Int) (K : V → List Bk → Prop) : vcF Tryz.prog cfgN (ctOf []) (lpOf []) 31 [.int .u8 c] [] K = (
  br (eqI c 9) (
    K (V.bool true) []) (
    br (leI 32 c) (
      K (V.bool (notB (eqI c 127))) []) (
      K (V.bool false) []))) := by kernel_rfl

theorem bl_vc (c : Int) (K : V → List Bk → Prop) : vcF Tryz.prog cfgN (ctOf []) (lpOf []) 102 [.int .u8 c] [] K = (
  br (eqI c 9) (
    K (V.bool true) []) (
    K (V.bool (eqI c 32)) [])) := by kernel_rfl

theorem ix_vc (xs : List (List V)) (I : ifsC → ifsX → ifsX → Nat → Prop) (K : V → List Bk → Prop) : vcF Tryz.prog cfgN (ctOf [(88, inlC Tryz.prog cfgN (ctOf []) 88)]) (lpOf [(2, ifsL I)]) 99 [.lst xs, .func 88 [] []] [] K = (
  (∃ m3 : Nat, (((m3 : Nat) < 18446744073709551616)) ∧ (
  I (ifsC.mk xs (lenL xs)) (ifsX.mk 0) (ifsX.mk 0) m3)) ∧ (
  ∀ x3 : (ifsL I).X, ∀ m4 : Nat, (I (ifsC.mk xs (lenL xs)) (ifsX.mk 0) x3 m4) → (
  br (ltI x3.1 (lenL xs)) (
    need (andB (leI 0 x3.1) (ltI x3.1 (lenL xs))) (
    need (okRow xs x3.1.toNat 1) (
    ∃ s5 : List UInt8, ((sub (rowAt xs x3.1) 0 1 : Option (List V)) = some [V.str s5]) ∧ (
    br (ltI 1025 (lenS s5)) (
      K (V.int IntKind.i64 x3.1) []) (
      ((ifsC.mk xs (lenL xs) : (ifsL I).C) = ifsC.mk xs (lenL xs)) ∧ (
      ∃ m'6 : Nat, (((m'6 : Nat) < m4)) ∧ (
      I (ifsC.mk xs (lenL xs)) (ifsX.mk 0) (ifsX.mk (addI IntKind.i64 x3.1 1)) m'6))))))) (
    K (V.int IntKind.i64 (-1)) [])))) := by kernel_rfl

theorem co_vc (xs : List (List V)) (K : V → List Bk → Prop) : vcF Tryz.prog cfgN (ctOf [(99, ixCon)]) (lpOf []) 87 [.lst xs, .func 88 [] []] [] K = (
  ∃ l2 : List (List UInt8), ((xs : List (List V)) = strV l2) ∧ (
  (((l2.length : Nat) ≤ 100000)) ∧ (
  ∀ i3 : Int, ((decide (0 ≤ i3) : Bool) = anyLong l2) → (
  K (V.bool (leI 0 i3)) [])))) := by kernel_rfl

def rg_vc_1 (r : Bool) (t : List UInt8) (xs : List (List V)) (I : rgC → rgX → rgX → Nat → Prop) (K : V → List Bk → Prop) : Prop :=
  (
        br (ltI 1024 (lenL xs)) (
          K (V.bool false) []) (
          (∃ m5 : Nat, (((m5 : Nat) < 18446744073709551616)) ∧ (
          I (rgC.mk r t xs (lenS t)) (rgX.mk 0) (rgX.mk 0) m5)) ∧ (
          ∀ x5 : (rgL I).X, ∀ m6 : Nat, (I (rgC.mk r t xs (lenS t)) (rgX.mk 0) x5 m6) → (
          br (ltI x5.1 (lenS t)) (
            need (andB (leI 0 x5.1) (ltI x5.1 (lenS t))) (
            br (notB (prB (atS t x5.1))) (
              K (V.bool false) []) (
              ((rgC.mk r t xs (lenS t) : (rgL I).C) = rgC.mk r t xs (lenS t)) ∧ (
              ∃ m'7 : Nat, (((m'7 : Nat) < m6)) ∧ (
              I (rgC.mk r t xs (lenS t)) (rgX.mk 0) (rgX.mk (addI IntKind.i64 x5.1 1)) m'7))))) (
            ∃ l7 : List (List UInt8), ((xs : List (List V)) = strV l7) ∧ (
            (((l7.length : Nat) ≤ 100000)) ∧ (
            K (V.bool (notB (anyLong l7))) [])))))))
theorem rg_vc (r : Bool) (t : List UInt8) (xs : List (List V)) (I : rgC → rgX → rgX → Nat → Prop) (K : V → List Bk → Prop) : vcF Tryz.prog cfgN (ctOf [(86, prCon), (87, coCon)]) (lpOf [(4, rgL I)]) 63 [.agg [.bool r, .str t, .lst xs]] [] K = (
  br (ltI 1024 (lenS t)) (
    K (V.bool false) []) (
    br (r) (
      br (notB (eqS t [])) (
        K (V.bool false) []) (rg_vc_1 r t xs I K)) (rg_vc_1 r t xs I K))) := by kernel_rfl

def rrg_vc_1 (r : Bool) (t : List UInt8) (xs : List (List V)) (I : rraC → rraX → rraX → Nat → Prop) (J : rrbC → rrbX → rrbX → Nat → Prop) (K : V → List Bk → Prop) : Prop :=
  (
        br (ltI 1024 (lenL xs)) (
          K (V.bool false) []) (
          (∃ m6 : Nat, (((m6 : Nat) < 18446744073709551616)) ∧ (
          I (rraC.mk r t xs) (rraX.mk 0) (rraX.mk 0) m6)) ∧ (
          ∀ x6 : (rraL I).X, ∀ m7 : Nat, (I (rraC.mk r t xs) (rraX.mk 0) x6 m7) → (
          br (ltI x6.1 (lenS t)) (
            need (andB (leI 0 x6.1) (ltI x6.1 (lenS t))) (
            br (notB (prB (atS t x6.1))) (
              K (V.bool false) []) (
              ((rraC.mk r t xs : (rraL I).C) = rraC.mk r t xs) ∧ (
              ∃ m'8 : Nat, (((m'8 : Nat) < m7)) ∧ (
              I (rraC.mk r t xs) (rraX.mk 0) (rraX.mk (addI IntKind.i64 x6.1 1)) m'8))))) (
            (∃ m8 : Nat, (((m8 : Nat) < 18446744073709551616)) ∧ (
            J (rrbC.mk r t xs) (rrbX.mk 0) (rrbX.mk 0) m8)) ∧ (
            ∀ x8 : (rrbL J).X, ∀ m9 : Nat, (J (rrbC.mk r t xs) (rrbX.mk 0) x8 m9) → (
            br (ltI x8.1 (lenL xs)) (
              need (andB (leI 0 x8.1) (ltI x8.1 (lenL xs))) (
              need (okRow xs x8.1.toNat 1) (
              ∃ s10 : List UInt8, ((sub (rowAt xs x8.1) 0 1 : Option (List V)) = some [V.str s10]) ∧ (
              br (ltI 1025 (lenS s10)) (
                K (V.bool false) []) (
                ((rrbC.mk r t xs : (rrbL J).C) = rrbC.mk r t xs) ∧ (
                ∃ m'11 : Nat, (((m'11 : Nat) < m9)) ∧ (
                J (rrbC.mk r t xs) (rrbX.mk 0) (rrbX.mk (addI IntKind.i64 x8.1 1)) m'11))))))) (
              K (V.bool true) []))))))))
theorem rrg_vc (r : Bool) (t : List UInt8) (xs : List (List V)) (I : rraC → rraX → rraX → Nat → Prop) (J : rrbC → rrbX → rrbX → Nat → Prop) (K : V → List Bk → Prop) : vcF Tryz.prog cfgN (ctOf [(31, prCon)]) (lpOf [(4, rraL I), (9, rrbL J)]) 12 [.agg [.bool r, .str t, .lst xs]] [] K = (
  br (ltI 1024 (lenS t)) (
    K (V.bool false) []) (
    br (r) (
      br (notB (eqS t [])) (
        K (V.bool false) []) (rrg_vc_1 r t xs I J K)) (rrg_vc_1 r t xs I J K))) := by kernel_rfl

theorem own_vc (r : Bool) (t : List UInt8) (xs : List (List V)) (K : V → List Bk → Prop) : vcF Tryz.prog cfgN (ctOf []) (lpOf []) 70 [.agg [.bool r, .str t, .lst xs]] [] K = (
  need (headOkP 1 xs) (
  need (leN (xs.length * 16) 140737488355328) (
  K (V.agg [V.bool r, V.str t, V.ref 0 0 xs.length xs.length]) [Bk.mk true false true xs 0]))) := by kernel_rfl

theorem dl_vc (r : Bool) (t s : List UInt8) (n k : Nat) (ys : List (List V)) (K : V → List Bk → Prop) : vcF Tryz.prog cfgN (ctOf []) (lpOf []) 92 [.ptr 0 0 0, .str s] [⟨true, true, true, [[.bool r, .str t, .ref 1 0 n k]], 0⟩, ⟨true, false, true, ys, 0⟩] K = (
  br (leI 1024 (Int.ofNat n)) (
    K (V.bool false) [Bk.mk true true true [[V.bool r, V.str t, V.ref 1 0 n k]] 0, Bk.mk true false true ys 0]) (
    need (headOkP 1 ys) (
    br (leN (n + 1) k) (
      K (V.bool true) [Bk.mk true true true [[V.bool r, V.str t, V.ref 1 0 (n + 1) k]] 0, Bk.mk true false true (List.take (0 + n) ys ++ [[V.str s]] ++ List.drop (0 + n + 1) ys) 0]) (
      need (eqN (0 + n) ys.length) (
      need (leN ((n + 1) * 16) 140737488355328) (
      K (V.bool true) [Bk.mk true true true [[V.bool r, V.str t, V.ref 2 0 (n + 1) (n + 1)]] 0, Bk.mk false false true [] 0, Bk.mk true false true (List.drop 0 ys ++ [[V.str s]]) 0])))))) := by kernel_rfl

def er_vc_1 (t : List UInt8) (c : Int) (I J : erC → erX → erX → Nat → Prop) (K : V → List Bk → Prop) (x5 : (erL I).X) : Prop :=
  (
          (∃ m7 : Nat, (((m7 : Nat) < 18446744073709551616)) ∧ (
          J (erC.mk t) (erX.mk x5.1) (erX.mk x5.1) m7)) ∧ (
          ∀ x7 : (erL J).X, ∀ m8 : Nat, (J (erC.mk t) (erX.mk x5.1) x7 m8) → (
          br (ltI 0 x7.1) (
            need (andB (leI 0 (subI IntKind.i64 x7.1 1)) (ltI (subI IntKind.i64 x7.1 1) (lenS t))) (
            br (notB (blB (atS t (subI IntKind.i64 x7.1 1)))) (
              ((erC.mk t : (erL J).C) = erC.mk t) ∧ (
              ∃ m'9 : Nat, (((m'9 : Nat) < m8)) ∧ (
              J (erC.mk t) (erX.mk x5.1) (erX.mk (subI IntKind.i64 x7.1 1)) m'9))) (
              K (V.int IntKind.i64 (subI IntKind.i64 (lenS t) x7.1)) []))) (
            K (V.int IntKind.i64 (subI IntKind.i64 (lenS t) x7.1)) []))))
theorem er_vc (t : List UInt8) (c : Int) (I J : erC → erX → erX → Nat → Prop) (K : V → List Bk → Prop) : vcF Tryz.prog cfgN (ctOf [(102, blCon)]) (lpOf [(6, erL I), (8, erL J)]) 93 [.str t, .int .u8 c] [] K = (
  br (eqI c 21) (
    K (V.int IntKind.i64 (lenS t)) []) (
    br (eqI c 23) (
      (∃ m5 : Nat, (((m5 : Nat) < 18446744073709551616)) ∧ (
      I (erC.mk t) (erX.mk (lenS t)) (erX.mk (lenS t)) m5)) ∧ (
      ∀ x5 : (erL I).X, ∀ m6 : Nat, (I (erC.mk t) (erX.mk (lenS t)) x5 m6) → (
      br (ltI 0 x5.1) (
        need (andB (leI 0 (subI IntKind.i64 x5.1 1)) (ltI (subI IntKind.i64 x5.1 1) (lenS t))) (
        br (blB (atS t (subI IntKind.i64 x5.1 1))) (
          ((erC.mk t : (erL I).C) = erC.mk t) ∧ (
          ∃ m'7 : Nat, (((m'7 : Nat) < m6)) ∧ (
          I (erC.mk t) (erX.mk (lenS t)) (erX.mk (subI IntKind.i64 x5.1 1)) m'7))) (er_vc_1 t c I J K x5))) (er_vc_1 t c I J K x5)))) (
      K (V.int IntKind.i64 (minI (lenS t) 1)) []))) := by kernel_rfl

def ty_vc_1 (r : Bool) (t : List UInt8) (n k : Nat) (ys : List (List V)) (c : Int) (K : V → List Bk → Prop) : Prop :=
  (
      (((t.length : Nat) ≤ 100000)) ∧ (
      need (andB (leI 0 (subI IntKind.i64 (lenS t) (Int.ofNat (erasedN t c)))) (leI (subI IntKind.i64 (lenS t) (Int.ofNat (erasedN t c))) (lenS t))) (
      need (andB (andB true (leI (Int.ofNat (erasedN t c)) 9223372036854775807)) (leN (3 * (Int.ofNat (erasedN t c)).toNat) 140737488355328)) (
      K (V.str (Lib.repeatL (ByteArray.mk #[8, 32, 8]).data.toList (Int.ofNat (erasedN t c)).toNat)) [Bk.mk true true true [[V.bool r, V.str (cutS t 0 (subI IntKind.i64 (lenS t) (Int.ofNat (erasedN t c)))), V.ref 1 0 n k]] 0, Bk.mk true false true ys 0]))))
def ty_vc_2 (r : Bool) (t : List UInt8) (n k : Nat) (ys : List (List V)) (c : Int) (K : V → List Bk → Prop) : Prop :=
  (
              need (catOk t [10]) (
              ∃ l7 : List (List UInt8), ((ys : List (List V)) = strV l7) ∧ (
              ((n : Nat) = l7.length) ∧ (
              ((k : Nat) = l7.length) ∧ (
              (((l7.length : Nat) ≤ 100000)) ∧ (
              br (ltI (Int.ofNat l7.length) 1024) (
                K (V.str [10]) [Bk.mk true true true [[V.bool r, V.str [], V.ref 2 0 (l7.length + 1) (l7.length + 1)]] 0, Bk.mk false false true [] 0, Bk.mk true false true (strV (l7 ++ [catS t [10]])) 0]) (
                K (V.str []) [Bk.mk true true true [[V.bool r, V.str t, V.ref 1 0 n k]] 0, Bk.mk true false true (strV l7) 0])))))))
theorem ty_vc (r : Bool) (t : List UInt8) (n k : Nat) (ys : List (List V)) (c : Int) (K : V → List Bk → Prop) : vcF Tryz.prog cfgN (ctOf [(86, prCon), (92, delivCon), (93, erasedCon)]) (lpOf []) 72 [.ptr 0 0 0, .int .u8 c] [⟨true, true, true, [[.bool r, .str t, .ref 1 0 n k]], 0⟩, ⟨true, false, true, ys, 0⟩] K = (
  br (r) (
    ∃ l7 : List (List UInt8), ((ys : List (List V)) = strV l7) ∧ (
    ((n : Nat) = l7.length) ∧ (
    ((k : Nat) = l7.length) ∧ (
    (((l7.length : Nat) ≤ 100000)) ∧ (
    br (ltI (Int.ofNat l7.length) 1024) (
      K (V.str []) [Bk.mk true true true [[V.bool r, V.str t, V.ref 2 0 (l7.length + 1) (l7.length + 1)]] 0, Bk.mk false false true [] 0, Bk.mk true false true (strV (l7 ++ [[UInt8.ofNat c.toNat]])) 0]) (
      K (V.str []) [Bk.mk true true true [[V.bool r, V.str t, V.ref 1 0 n k]] 0, Bk.mk true false true (strV l7) 0])))))) (
    br (eqI c 8) (ty_vc_1 r t n k ys c K) (
      br (eqI c 127) (ty_vc_1 r t n k ys c K) (
        br (eqI c 21) (ty_vc_1 r t n k ys c K) (
          br (eqI c 23) (ty_vc_1 r t n k ys c K) (
            br (eqI c 10) (ty_vc_2 r t n k ys c K) (
              br (eqI c 13) (ty_vc_2 r t n k ys c K) (
                br (eqI c 4) (
                  ∃ l7 : List (List UInt8), ((ys : List (List V)) = strV l7) ∧ (
                  ((n : Nat) = l7.length) ∧ (
                  ((k : Nat) = l7.length) ∧ (
                  (((l7.length : Nat) ≤ 100000)) ∧ (
                  br (ltI (Int.ofNat l7.length) 1024) (
                    K (V.str []) [Bk.mk true true true [[V.bool r, V.str [], V.ref 2 0 (l7.length + 1) (l7.length + 1)]] 0, Bk.mk false false true [] 0, Bk.mk true false true (strV (l7 ++ [t])) 0]) (
                    K (V.str []) [Bk.mk true true true [[V.bool r, V.str t, V.ref 1 0 n k]] 0, Bk.mk true false true (strV l7) 0])))))) (
                  br (prB c) (
                    br (ltI (lenS t) 1024) (
                      need (catOk t [UInt8.ofNat c.toNat]) (
                      K (V.str [UInt8.ofNat c.toNat]) [Bk.mk true true true [[V.bool r, V.str (catS t [UInt8.ofNat c.toNat]), V.ref 1 0 n k]] 0, Bk.mk true false true ys 0])) (
                      K (V.str []) [Bk.mk true true true [[V.bool r, V.str t, V.ref 1 0 n k]] 0, Bk.mk true false true ys 0])) (
                    K (V.str []) [Bk.mk true true true [[V.bool r, V.str t, V.ref 1 0 n k]] 0, Bk.mk true false true ys 0])))))))))) := by kernel_rfl

def fd_vc_1 (r : Bool) (t : List UInt8) (xs : List (List V)) (s : List UInt8) (I : fdC → fdX → fdX → Nat → Prop) (K : V → List Bk → Prop) (x7 : (fdL I).X) (l9 : List (List UInt8)) (m8 : Nat) (l6 : List (List UInt8)) : Prop :=
  (
    need (headOkP 1 x7.8) (
    br (leN (x7.6 + (List.map (fun c ↦ [V.int IntKind.u8 (Int.ofNat c.toBitVec.toFin.1)]) (typeF (Line.mk x7.r x7.t l9) (atS (fdC.mk s (lenS s) (Bk.mk (Bk.mk true true true [[V.slf (1000 + (2 * 256 + 0) * 8), V.nils]] cfgN.bld).live (Bk.mk true true true [[V.slf (1000 + (2 * 256 + 0) * 8), V.nils]] cfgN.bld).box (Bk.mk true true true [[V.slf (1000 + (2 * 256 + 0) * 8), V.nils]] cfgN.bld).wr [[V.slf (1000 + (2 * 256 + 0) * 8), V.ref (2000000000 + 1000 * (200007 % 100000) + 1) 0 0 0]] (Bk.mk true true true [[V.slf (1000 + (2 * 256 + 0) * 8), V.nils]] cfgN.bld).ty).ty ((Bk.mk true true true [[V.slf (1000 + (2 * 256 + 0) * 8), V.nils]] cfgN.bld).ty % 1000000)).s x7.i)).2).length) x7.7) (
      ((fdC.mk s (lenS s) ((107 + 1) * 1000000 + (5 + 1)) (5 + 1) : (fdL I).C) = fdC.mk s (lenS s) ((107 + 1) * 1000000 + (5 + 1)) (5 + 1)) ∧ (
      ∃ m'10 : Nat, (((m'10 : Nat) < m8)) ∧ (
      I (fdC.mk s (lenS s) ((107 + 1) * 1000000 + (5 + 1)) (5 + 1)) (fdX.mk r t l6.length l6.length (strV l6) 0 0 [] 0) (fdX.mk (typeF (Line.mk x7.r x7.t l9) (atS (fdC.mk s (lenS s) (Bk.mk (Bk.mk true true true [[V.slf (1000 + (2 * 256 + 0) * 8), V.nils]] cfgN.bld).live (Bk.mk true true true [[V.slf (1000 + (2 * 256 + 0) * 8), V.nils]] cfgN.bld).box (Bk.mk true true true [[V.slf (1000 + (2 * 256 + 0) * 8), V.nils]] cfgN.bld).wr [[V.slf (1000 + (2 * 256 + 0) * 8), V.ref (2000000000 + 1000 * (200007 % 100000) + 1) 0 0 0]] (Bk.mk true true true [[V.slf (1000 + (2 * 256 + 0) * 8), V.nils]] cfgN.bld).ty).ty ((Bk.mk true true true [[V.slf (1000 + (2 * 256 + 0) * 8), V.nils]] cfgN.bld).ty % 1000000)).s x7.i)).fst.1 (typeF (Line.mk x7.r x7.t l9) (atS (fdC.mk s (lenS s) (Bk.mk (Bk.mk true true true [[V.slf (1000 + (2 * 256 + 0) * 8), V.nils]] cfgN.bld).live (Bk.mk true true true [[V.slf (1000 + (2 * 256 + 0) * 8), V.nils]] cfgN.bld).box (Bk.mk true true true [[V.slf (1000 + (2 * 256 + 0) * 8), V.nils]] cfgN.bld).wr [[V.slf (1000 + (2 * 256 + 0) * 8), V.ref (2000000000 + 1000 * (200007 % 100000) + 1) 0 0 0]] (Bk.mk true true true [[V.slf (1000 + (2 * 256 + 0) * 8), V.nils]] cfgN.bld).ty).ty ((Bk.mk true true true [[V.slf (1000 + (2 * 256 + 0) * 8), V.nils]] cfgN.bld).ty % 1000000)).s x7.i)).fst.2 (typeF (Line.mk x7.r x7.t l9) (atS (fdC.mk s (lenS s) (Bk.mk (Bk.mk true true true [[V.slf (1000 + (2 * 256 + 0) * 8), V.nils]] cfgN.bld).live (Bk.mk true true true [[V.slf (1000 + (2 * 256 + 0) * 8), V.nils]] cfgN.bld).box (Bk.mk true true true [[V.slf (1000 + (2 * 256 + 0) * 8), V.nils]] cfgN.bld).wr [[V.slf (1000 + (2 * 256 + 0) * 8), V.ref (2000000000 + 1000 * (200007 % 100000) + 1) 0 0 0]] (Bk.mk true true true [[V.slf (1000 + (2 * 256 + 0) * 8), V.nils]] cfgN.bld).ty).ty ((Bk.mk true true true [[V.slf (1000 + (2 * 256 + 0) * 8), V.nils]] cfgN.bld).ty % 1000000)).s x7.i)).fst.3.length (typeF (Line.mk x7.r x7.t l9) (atS (fdC.mk s (lenS s) (Bk.mk (Bk.mk true true true [[V.slf (1000 + (2 * 256 + 0) * 8), V.nils]] cfgN.bld).live (Bk.mk true true true [[V.slf (1000 + (2 * 256 + 0) * 8), V.nils]] cfgN.bld).box (Bk.mk true true true [[V.slf (1000 + (2 * 256 + 0) * 8), V.nils]] cfgN.bld).wr [[V.slf (1000 + (2 * 256 + 0) * 8), V.ref (2000000000 + 1000 * (200007 % 100000) + 1) 0 0 0]] (Bk.mk true true true [[V.slf (1000 + (2 * 256 + 0) * 8), V.nils]] cfgN.bld).ty).ty ((Bk.mk true true true [[V.slf (1000 + (2 * 256 + 0) * 8), V.nils]] cfgN.bld).ty % 1000000)).s x7.i)).fst.3.length (strV (typeF (Line.mk x7.r x7.t l9) (atS (fdC.mk s (lenS s) (Bk.mk (Bk.mk true true true [[V.slf (1000 + (2 * 256 + 0) * 8), V.nils]] cfgN.bld).live (Bk.mk true true true [[V.slf (1000 + (2 * 256 + 0) * 8), V.nils]] cfgN.bld).box (Bk.mk true true true [[V.slf (1000 + (2 * 256 + 0) * 8), V.nils]] cfgN.bld).wr [[V.slf (1000 + (2 * 256 + 0) * 8), V.ref (2000000000 + 1000 * (200007 % 100000) + 1) 0 0 0]] (Bk.mk true true true [[V.slf (1000 + (2 * 256 + 0) * 8), V.nils]] cfgN.bld).ty).ty ((Bk.mk true true true [[V.slf (1000 + (2 * 256 + 0) * 8), V.nils]] cfgN.bld).ty % 1000000)).s x7.i)).fst.3) (x7.6 + (List.map (fun c ↦ [V.int IntKind.u8 (Int.ofNat c.toBitVec.toFin.1)]) (typeF (Line.mk x7.r x7.t l9) (atS (fdC.mk s (lenS s) (Bk.mk (Bk.mk true true true [[V.slf (1000 + (2 * 256 + 0) * 8), V.nils]] cfgN.bld).live (Bk.mk true true true [[V.slf (1000 + (2 * 256 + 0) * 8), V.nils]] cfgN.bld).box (Bk.mk true true true [[V.slf (1000 + (2 * 256 + 0) * 8), V.nils]] cfgN.bld).wr [[V.slf (1000 + (2 * 256 + 0) * 8), V.ref (2000000000 + 1000 * (200007 % 100000) + 1) 0 0 0]] (Bk.mk true true true [[V.slf (1000 + (2 * 256 + 0) * 8), V.nils]] cfgN.bld).ty).ty ((Bk.mk true true true [[V.slf (1000 + (2 * 256 + 0) * 8), V.nils]] cfgN.bld).ty % 1000000)).s x7.i)).2).length) x7.7 (List.take (0 + x7.6) x7.8 ++ List.map (fun c ↦ [V.int IntKind.u8 (Int.ofNat c.toBitVec.toFin.1)]) (typeF (Line.mk x7.r x7.t l9) (atS (fdC.mk s (lenS s) (Bk.mk (Bk.mk true true true [[V.slf (1000 + (2 * 256 + 0) * 8), V.nils]] cfgN.bld).live (Bk.mk true true true [[V.slf (1000 + (2 * 256 + 0) * 8), V.nils]] cfgN.bld).box (Bk.mk true true true [[V.slf (1000 + (2 * 256 + 0) * 8), V.nils]] cfgN.bld).wr [[V.slf (1000 + (2 * 256 + 0) * 8), V.ref (2000000000 + 1000 * (200007 % 100000) + 1) 0 0 0]] (Bk.mk true true true [[V.slf (1000 + (2 * 256 + 0) * 8), V.nils]] cfgN.bld).ty).ty ((Bk.mk true true true [[V.slf (1000 + (2 * 256 + 0) * 8), V.nils]] cfgN.bld).ty % 1000000)).s x7.i)).2 ++ List.drop (0 + x7.6 + (List.map (fun c ↦ [V.int IntKind.u8 (Int.ofNat c.toBitVec.toFin.1)]) (typeF (Line.mk x7.r x7.t l9) (atS (fdC.mk s (lenS s) (Bk.mk (Bk.mk true true true [[V.slf (1000 + (2 * 256 + 0) * 8), V.nils]] cfgN.bld).live (Bk.mk true true true [[V.slf (1000 + (2 * 256 + 0) * 8), V.nils]] cfgN.bld).box (Bk.mk true true true [[V.slf (1000 + (2 * 256 + 0) * 8), V.nils]] cfgN.bld).wr [[V.slf (1000 + (2 * 256 + 0) * 8), V.ref (2000000000 + 1000 * (200007 % 100000) + 1) 0 0 0]] (Bk.mk true true true [[V.slf (1000 + (2 * 256 + 0) * 8), V.nils]] cfgN.bld).ty).ty ((Bk.mk true true true [[V.slf (1000 + (2 * 256 + 0) * 8), V.nils]] cfgN.bld).ty % 1000000)).s x7.i)).2).length) x7.8) (addI IntKind.i64 x7.9 1)) m'10))) (
      need (eqN (0 + x7.6) x7.8.length) (
      need (leN ((x7.6 + (List.map (fun c ↦ [V.int IntKind.u8 (Int.ofNat c.toBitVec.toFin.1)]) (typeF (Line.mk x7.r x7.t l9) (atS (fdC.mk s (lenS s) (Bk.mk (Bk.mk true true true [[V.slf (1000 + (2 * 256 + 0) * 8), V.nils]] cfgN.bld).live (Bk.mk true true true [[V.slf (1000 + (2 * 256 + 0) * 8), V.nils]] cfgN.bld).box (Bk.mk true true true [[V.slf (1000 + (2 * 256 + 0) * 8), V.nils]] cfgN.bld).wr [[V.slf (1000 + (2 * 256 + 0) * 8), V.ref (2000000000 + 1000 * (200007 % 100000) + 1) 0 0 0]] (Bk.mk true true true [[V.slf (1000 + (2 * 256 + 0) * 8), V.nils]] cfgN.bld).ty).ty ((Bk.mk true true true [[V.slf (1000 + (2 * 256 + 0) * 8), V.nils]] cfgN.bld).ty % 1000000)).s x7.i)).2).length) * 1) 140737488355328) (
      ((fdC.mk s (lenS s) ((107 + 1) * 1000000 + (5 + 1)) (5 + 1) : (fdL I).C) = fdC.mk s (lenS s) ((107 + 1) * 1000000 + (5 + 1)) (5 + 1)) ∧ (
      ∃ m'10 : Nat, (((m'10 : Nat) < m8)) ∧ (
      I (fdC.mk s (lenS s) ((107 + 1) * 1000000 + (5 + 1)) (5 + 1)) (fdX.mk r t l6.length l6.length (strV l6) 0 0 [] 0) (fdX.mk (typeF (Line.mk x7.r x7.t l9) (atS (fdC.mk s (lenS s) (Bk.mk (Bk.mk true true true [[V.slf (1000 + (2 * 256 + 0) * 8), V.nils]] cfgN.bld).live (Bk.mk true true true [[V.slf (1000 + (2 * 256 + 0) * 8), V.nils]] cfgN.bld).box (Bk.mk true true true [[V.slf (1000 + (2 * 256 + 0) * 8), V.nils]] cfgN.bld).wr [[V.slf (1000 + (2 * 256 + 0) * 8), V.ref (2000000000 + 1000 * (200007 % 100000) + 1) 0 0 0]] (Bk.mk true true true [[V.slf (1000 + (2 * 256 + 0) * 8), V.nils]] cfgN.bld).ty).ty ((Bk.mk true true true [[V.slf (1000 + (2 * 256 + 0) * 8), V.nils]] cfgN.bld).ty % 1000000)).s x7.i)).fst.1 (typeF (Line.mk x7.r x7.t l9) (atS (fdC.mk s (lenS s) (Bk.mk (Bk.mk true true true [[V.slf (1000 + (2 * 256 + 0) * 8), V.nils]] cfgN.bld).live (Bk.mk true true true [[V.slf (1000 + (2 * 256 + 0) * 8), V.nils]] cfgN.bld).box (Bk.mk true true true [[V.slf (1000 + (2 * 256 + 0) * 8), V.nils]] cfgN.bld).wr [[V.slf (1000 + (2 * 256 + 0) * 8), V.ref (2000000000 + 1000 * (200007 % 100000) + 1) 0 0 0]] (Bk.mk true true true [[V.slf (1000 + (2 * 256 + 0) * 8), V.nils]] cfgN.bld).ty).ty ((Bk.mk true true true [[V.slf (1000 + (2 * 256 + 0) * 8), V.nils]] cfgN.bld).ty % 1000000)).s x7.i)).fst.2 (typeF (Line.mk x7.r x7.t l9) (atS (fdC.mk s (lenS s) (Bk.mk (Bk.mk true true true [[V.slf (1000 + (2 * 256 + 0) * 8), V.nils]] cfgN.bld).live (Bk.mk true true true [[V.slf (1000 + (2 * 256 + 0) * 8), V.nils]] cfgN.bld).box (Bk.mk true true true [[V.slf (1000 + (2 * 256 + 0) * 8), V.nils]] cfgN.bld).wr [[V.slf (1000 + (2 * 256 + 0) * 8), V.ref (2000000000 + 1000 * (200007 % 100000) + 1) 0 0 0]] (Bk.mk true true true [[V.slf (1000 + (2 * 256 + 0) * 8), V.nils]] cfgN.bld).ty).ty ((Bk.mk true true true [[V.slf (1000 + (2 * 256 + 0) * 8), V.nils]] cfgN.bld).ty % 1000000)).s x7.i)).fst.3.length (typeF (Line.mk x7.r x7.t l9) (atS (fdC.mk s (lenS s) (Bk.mk (Bk.mk true true true [[V.slf (1000 + (2 * 256 + 0) * 8), V.nils]] cfgN.bld).live (Bk.mk true true true [[V.slf (1000 + (2 * 256 + 0) * 8), V.nils]] cfgN.bld).box (Bk.mk true true true [[V.slf (1000 + (2 * 256 + 0) * 8), V.nils]] cfgN.bld).wr [[V.slf (1000 + (2 * 256 + 0) * 8), V.ref (2000000000 + 1000 * (200007 % 100000) + 1) 0 0 0]] (Bk.mk true true true [[V.slf (1000 + (2 * 256 + 0) * 8), V.nils]] cfgN.bld).ty).ty ((Bk.mk true true true [[V.slf (1000 + (2 * 256 + 0) * 8), V.nils]] cfgN.bld).ty % 1000000)).s x7.i)).fst.3.length (strV (typeF (Line.mk x7.r x7.t l9) (atS (fdC.mk s (lenS s) (Bk.mk (Bk.mk true true true [[V.slf (1000 + (2 * 256 + 0) * 8), V.nils]] cfgN.bld).live (Bk.mk true true true [[V.slf (1000 + (2 * 256 + 0) * 8), V.nils]] cfgN.bld).box (Bk.mk true true true [[V.slf (1000 + (2 * 256 + 0) * 8), V.nils]] cfgN.bld).wr [[V.slf (1000 + (2 * 256 + 0) * 8), V.ref (2000000000 + 1000 * (200007 % 100000) + 1) 0 0 0]] (Bk.mk true true true [[V.slf (1000 + (2 * 256 + 0) * 8), V.nils]] cfgN.bld).ty).ty ((Bk.mk true true true [[V.slf (1000 + (2 * 256 + 0) * 8), V.nils]] cfgN.bld).ty % 1000000)).s x7.i)).fst.3) (x7.6 + (List.map (fun c ↦ [V.int IntKind.u8 (Int.ofNat c.toBitVec.toFin.1)]) (typeF (Line.mk x7.r x7.t l9) (atS (fdC.mk s (lenS s) (Bk.mk (Bk.mk true true true [[V.slf (1000 + (2 * 256 + 0) * 8), V.nils]] cfgN.bld).live (Bk.mk true true true [[V.slf (1000 + (2 * 256 + 0) * 8), V.nils]] cfgN.bld).box (Bk.mk true true true [[V.slf (1000 + (2 * 256 + 0) * 8), V.nils]] cfgN.bld).wr [[V.slf (1000 + (2 * 256 + 0) * 8), V.ref (2000000000 + 1000 * (200007 % 100000) + 1) 0 0 0]] (Bk.mk true true true [[V.slf (1000 + (2 * 256 + 0) * 8), V.nils]] cfgN.bld).ty).ty ((Bk.mk true true true [[V.slf (1000 + (2 * 256 + 0) * 8), V.nils]] cfgN.bld).ty % 1000000)).s x7.i)).2).length) (x7.6 + (List.map (fun c ↦ [V.int IntKind.u8 (Int.ofNat c.toBitVec.toFin.1)]) (typeF (Line.mk x7.r x7.t l9) (atS (fdC.mk s (lenS s) (Bk.mk (Bk.mk true true true [[V.slf (1000 + (2 * 256 + 0) * 8), V.nils]] cfgN.bld).live (Bk.mk true true true [[V.slf (1000 + (2 * 256 + 0) * 8), V.nils]] cfgN.bld).box (Bk.mk true true true [[V.slf (1000 + (2 * 256 + 0) * 8), V.nils]] cfgN.bld).wr [[V.slf (1000 + (2 * 256 + 0) * 8), V.ref (2000000000 + 1000 * (200007 % 100000) + 1) 0 0 0]] (Bk.mk true true true [[V.slf (1000 + (2 * 256 + 0) * 8), V.nils]] cfgN.bld).ty).ty ((Bk.mk true true true [[V.slf (1000 + (2 * 256 + 0) * 8), V.nils]] cfgN.bld).ty % 1000000)).s x7.i)).2).length) (List.drop 0 x7.8 ++ List.map (fun c ↦ [V.int IntKind.u8 (Int.ofNat c.toBitVec.toFin.1)]) (typeF (Line.mk x7.r x7.t l9) (atS (fdC.mk s (lenS s) (Bk.mk (Bk.mk true true true [[V.slf (1000 + (2 * 256 + 0) * 8), V.nils]] cfgN.bld).live (Bk.mk true true true [[V.slf (1000 + (2 * 256 + 0) * 8), V.nils]] cfgN.bld).box (Bk.mk true true true [[V.slf (1000 + (2 * 256 + 0) * 8), V.nils]] cfgN.bld).wr [[V.slf (1000 + (2 * 256 + 0) * 8), V.ref (2000000000 + 1000 * (200007 % 100000) + 1) 0 0 0]] (Bk.mk true true true [[V.slf (1000 + (2 * 256 + 0) * 8), V.nils]] cfgN.bld).ty).ty ((Bk.mk true true true [[V.slf (1000 + (2 * 256 + 0) * 8), V.nils]] cfgN.bld).ty % 1000000)).s x7.i)).2) (addI IntKind.i64 x7.9 1)) m'10)))))))
theorem fd_vc (r : Bool) (t : List UInt8) (xs : List (List V)) (s : List UInt8) (I : fdC → fdX → fdX → Nat → Prop) (K : V → List Bk → Prop) : vcF Tryz.prog cfgN (ctOf [(70, ownCon), (72, typedCon), (71, inlC Tryz.prog cfgN (ctOf []) 71)]) (lpOf [(4, fdL I)]) 38 [.agg [.bool r, .str t, .lst xs], .str s] [] K = (
  ∃ l6 : List (List UInt8), ((xs : List (List V)) = strV l6) ∧ (
  (((l6.length : Nat) ≤ 100000)) ∧ (
  (∃ m7 : Nat, (((m7 : Nat) < 18446744073709551616)) ∧ (
  I (fdC.mk s (lenS s) ((107 + 1) * 1000000 + (5 + 1)) (5 + 1)) (fdX.mk r t l6.length l6.length (strV l6) 0 0 [] 0) (fdX.mk r t l6.length l6.length (strV l6) 0 0 [] 0) m7)) ∧ (
  ∀ x7 : (fdL I).X, ∀ m8 : Nat, (I (fdC.mk s (lenS s) ((107 + 1) * 1000000 + (5 + 1)) (5 + 1)) (fdX.mk r t l6.length l6.length (strV l6) 0 0 [] 0) x7 m8) → (
  br (ltI x7.9 (lenS s)) (
    need (andB (leI 0 x7.9) (ltI x7.9 (lenS s))) (
    ∃ l9 : List (List UInt8), ((x7.5 : List (List V)) = strV l9) ∧ (
    ((x7.3 : Nat) = l9.length) ∧ (
    ((x7.4 : Nat) = l9.length) ∧ (
    ((rightL (Line.mk x7.1 x7.2 l9) : Bool) = true) ∧ (
    (((0 : Int) ≤ atS s x7.9)) ∧ (
    (((atS s x7.9 : Int) ≤ 255)) ∧ (
    (need (headOkP 1 (List.map (fun c ↦ [V.int IntKind.u8 (Int.ofNat c.toBitVec.toFin.1)]) (typeF (Line.mk x7.r x7.t l9) (atS (fdC.mk s (lenS s) (Bk.mk (Bk.mk true true true [[V.slf (1000 + (2 * 256 + 0) * 8), V.nils]] cfgN.bld).live (Bk.mk true true true [[V.slf (1000 + (2 * 256 + 0) * 8), V.nils]] cfgN.bld).box (Bk.mk true true true [[V.slf (1000 + (2 * 256 + 0) * 8), V.nils]] cfgN.bld).wr [[V.slf (1000 + (2 * 256 + 0) * 8), V.ref (2000000000 + 1000 * (200007 % 100000) + 1) 0 0 0]] (Bk.mk true true true [[V.slf (1000 + (2 * 256 + 0) * 8), V.nils]] cfgN.bld).ty).ty ((Bk.mk true true true [[V.slf (1000 + (2 * 256 + 0) * 8), V.nils]] cfgN.bld).ty % 1000000)).s x7.i)).2)) (fd_vc_1 r t xs s I K x7 l9 m8 l6)) ∧ (
    need (headOkP 1 (List.map (fun c ↦ [V.int IntKind.u8 (Int.ofNat c.toBitVec.toFin.1)]) (typeF (Line.mk x7.r x7.t l9) (atS (fdC.mk s (lenS s) (Bk.mk (Bk.mk true true true [[V.slf (1000 + (2 * 256 + 0) * 8), V.nils]] cfgN.bld).live (Bk.mk true true true [[V.slf (1000 + (2 * 256 + 0) * 8), V.nils]] cfgN.bld).box (Bk.mk true true true [[V.slf (1000 + (2 * 256 + 0) * 8), V.nils]] cfgN.bld).wr [[V.slf (1000 + (2 * 256 + 0) * 8), V.ref (2000000000 + 1000 * (200007 % 100000) + 1) 0 0 0]] (Bk.mk true true true [[V.slf (1000 + (2 * 256 + 0) * 8), V.nils]] cfgN.bld).ty).ty ((Bk.mk true true true [[V.slf (1000 + (2 * 256 + 0) * 8), V.nils]] cfgN.bld).ty % 1000000)).s x7.i)).2)) (fd_vc_1 r t xs s I K x7 l9 m8 l6)))))))))) (
    need (okBytes (List.take x7.6 x7.8)) (
    need (exactB (List.take x7.6 x7.8)) (
    need (leN x7.6 140737488355328) (
    K (V.tup [V.agg [V.bool x7.1, V.str x7.2, V.lst (List.take x7.3 (List.drop 0 x7.5))], V.str (bytesOf (List.take x7.6 x7.8))]) []))))))))) := by kernel_rfl

theorem rd_vc (r : Bool) (t : List UInt8) (xs : List (List V)) (n : Int) (K : V → List Bk → Prop) : vcF Tryz.prog cfgN (ctOf [(70, ownCon)]) (lpOf []) 36 [.agg [.bool r, .str t, .lst xs], .int .i64 n] [] K = (
  ∃ l5 : List (List UInt8), ((xs : List (List V)) = strV l5) ∧ (
  (((l5.length : Nat) ≤ 100000)) ∧ (
  br (eqI (Int.ofNat l5.length) 0) (
    K (V.tup [V.agg [V.bool r, V.str t, V.lst (List.take l5.length (List.drop 0 (strV l5)))], V.str [], V.bool true]) []) (
    need (andB true (ltI 0 (Int.ofNat l5.length))) (
    need (okRow (strV l5) 0 1) (
    ∃ s6 : List UInt8, ((partAt (strV l5) 0 0 1 : Option (List V)) = some [V.str s6]) ∧ (
    br (eqI (minI (maxI n 0) (lenS s6)) (lenS s6)) (
      need (headOkP 1 (strV l5)) (
      need (andB true (leI 1 (Int.ofNat l5.length))) (
      need (andB (leI 0 (minI (maxI n 0) (lenS s6))) (leI (minI (maxI n 0) (lenS s6)) (lenS s6))) (
      K (V.tup [V.agg [V.bool r, V.str t, V.lst (List.take ((Int.ofNat l5.length).toNat - 1) (List.drop 1 (strV l5)))], V.str (cutS s6 0 (minI (maxI n 0) (lenS s6))), V.bool false]) [])))) (
      need (andB (leI 0 (minI (maxI n 0) (lenS s6))) (leI (minI (maxI n 0) (lenS s6)) (lenS s6))) (
      need (andB true (ltI 0 (Int.ofNat l5.length))) (
      need (okRow (strV l5) 0 1) (
      ∃ xs7 : List (List V), ((putAt (strV l5) 0 0 [V.str (cutS s6 (minI (maxI n 0) (lenS s6)) (lenS s6))] : Option (List (List V))) = some xs7) ∧ (
      need (andB (leI 0 (minI (maxI n 0) (lenS s6))) (leI (minI (maxI n 0) (lenS s6)) (lenS s6))) (
      K (V.tup [V.agg [V.bool r, V.str t, V.lst (List.take l5.length (List.drop 0 xs7))], V.str (cutS s6 0 (minI (maxI n 0) (lenS s6))), V.bool false]) []))))))))))))) := by kernel_rfl

end Go.Proofs.YtdbbpibfejchfaaGreatDoor
namespace Go.Proofs.YtdbbpibfejchfaaGreatDoor
open Go.RowKit
set_option maxRecDepth 100000
set_option linter.unusedVariables false
set_option linter.unusedSimpArgs false
theorem rowsB_fold (s : List UInt8) : List.map (fun c : UInt8 => [V.int IntKind.u8 (Int.ofNat c.toBitVec.toFin.1)]) s = rowsB s := rfl
theorem rowsB_app (a b : List UInt8) : rowsB a ++ rowsB b = rowsB (a ++ b) := by simp [rowsB]
theorem rowsB_head (s : List UInt8) : headOkP 1 (rowsB s) = true := by cases s <;> rfl
theorem exactB_rowsB : ∀ s : List UInt8, exactB (rowsB s) = true
  | [] => rfl
  | c :: s => by
    rw [rowsB_cons]
    have := c.toNat_lt
    simp only [exactB, exactB_rowsB s, Bool.and_true, Bool.and_eq_true, decide_eq_true_eq]
    omega
theorem take_rowsB (s : List UInt8) : List.take s.length (rowsB s) = rowsB s := List.take_of_length_le (by rw [rowsB_len]; omega)
theorem textOk_step {t : List UInt8} {k : Nat} (h : k < t.length) : textOk (t.take (k + 1)) = (textOk (t.take k) && prB (atS t (k : Int))) := by
  rw [List.take_succ_eq_append_getElem h, textOk_app, atS_at h]
  simp [textOk]
theorem textOk_no {t : List UInt8} {k : Nat} (h : k < t.length) (hp : prB (atS t (k : Int)) = false) : textOk t = false := by
  rw [atS_at h] at hp
  unfold textOk
  rw [List.all_eq_false]
  exact ⟨_, List.getElem_mem h, by rw [hp]; simp⟩
theorem long_step {l : List (List UInt8)} {k : Nat} {f : List UInt8} (h : l[k]? = some f) : anyLong (l.take (k + 1)) = (anyLong (l.take k) || longB f.length) := by
  obtain ⟨h1, rfl⟩ := List.getElem?_eq_some_iff.1 h
  rw [List.take_succ_eq_append_getElem h1]
  unfold anyLong
  rw [List.any_append, List.any_cons, List.any_nil, Bool.or_false]
theorem long_yes {l : List (List UInt8)} {k : Nat} {f : List UInt8} (h : l[k]? = some f) (hl : longB f.length = true) : anyLong l = true := by
  unfold anyLong
  rw [List.any_eq_true]
  exact ⟨f, List.mem_of_getElem? h, hl⟩
theorem pr_con {n : Nat} (hn : 1 ≤ n) : ConOk (evalF Tryz.prog cfgN n) 86 prCon := by
  intro vs bs K h
  unfold prCon at h
  split at h
  · rename_i c
    refine run_of (lp := lpOf []) hn (fun k _ => noCt_ok _) ?_
    rw [pr_vc]
    have e : prB c = (eqI c 9 || (leI 32 c && notB (eqI c 127))) := rfl
    rw [e] at h
    cases h1 : eqI c 9 <;> cases h2 : leI 32 c <;> (rw [h1, h2] at h; exact h)
  · exact h.elim
theorem rpr_con {n : Nat} (hn : 1 ≤ n) : ConOk (evalF Tryz.prog cfgN n) 31 prCon := by
  intro vs bs K h
  unfold prCon at h
  split at h
  · rename_i c
    refine run_of (lp := lpOf []) hn (fun k _ => noCt_ok _) ?_
    rw [rpr_vc]
    have e : prB c = (eqI c 9 || (leI 32 c && notB (eqI c 127))) := rfl
    rw [e] at h
    cases h1 : eqI c 9 <;> cases h2 : leI 32 c <;> (rw [h1, h2] at h; exact h)
  · exact h.elim
theorem bl_con {n : Nat} (hn : 1 ≤ n) : ConOk (evalF Tryz.prog cfgN n) 102 blCon := by
  intro vs bs K h
  unfold blCon at h
  split at h
  · rename_i c
    refine run_of (lp := lpOf []) hn (fun k _ => noCt_ok _) ?_
    rw [bl_vc]
    have e : blB c = (eqI c 9 || eqI c 32) := rfl
    rw [e] at h
    cases h1 : eqI c 9 <;> (rw [h1] at h; exact h)
  · exact h.elim
theorem ixs_con {n : Nat} (hn : 2 ≤ n) : ConOk (evalF Tryz.prog cfgN n) 99 ixCon := by
  intro vs bs K h
  unfold ixCon at h
  split at h
  · rename_i xs
    obtain ⟨l, rfl, hb, hK⟩ := h
    refine run_of (lp := lpOf [(2, ifsL fun _ _ x m => ∃ k : Nat, x = ⟨(k : Int)⟩ ∧ k + m = l.length ∧ anyLong (l.take k) = false)]) (by omega) (ct := ctOf [(88, inlC Tryz.prog cfgN (ctOf []) 88)]) (fun k hk => ctOf_ok (ctOf_cons (inl_ok (by omega) (fun _ _ => noCt_ok _)) (ctOf_nil _))) ?_
    rw [ix_vc]
    simp only [strV_lenL]
    refine ⟨⟨l.length, by omega, 0, rfl, by omega, rfl⟩, ?_⟩
    rintro _ m ⟨k, rfl, hk, hp⟩
    dsimp only
    rw [br_iff]
    refine ⟨fun hlt => ?_, fun hge => ?_⟩
    · have hlt : k < l.length := by simp only [br_iff, need_iff, andB_t, andB_f, orB_t, orB_f, notB_t, notB_f, leI_t, leI_f, ltI_t, ltI_f, eqI_t, eqI_f, leN_t, leN_f, eqN_t, eqN_f, eqS_t, eqS_f, eqB_t, eqB_f, catOk_t, leC_t] at hlt; omega
      have gf : l[k]? = some l[k] := List.getElem?_eq_getElem hlt
      generalize l[k] = f at gf
      have rf := strV_row gf
      have kf : okRow (strV l) (Int.toNat (k : Int)) 1 = true := by simpa using strV_ok (l := l) (i := k) hlt
      have nf : andB (leI 0 (k : Int)) (ltI (k : Int) (l.length : Int)) = true := by simp only [br_iff, need_iff, andB_t, andB_f, orB_t, orB_f, notB_t, notB_f, leI_t, leI_f, ltI_t, ltI_f, eqI_t, eqI_f, leN_t, leN_f, eqN_t, eqN_f, eqS_t, eqS_f, eqB_t, eqB_f, catOk_t, leC_t]; omega
      rw [need_iff, need_iff]
      refine ⟨nf, kf, ?_⟩
      try rw [rf]
      repeat apply Exists.intro
      refine ⟨rfl, ?_⟩
      rw [br_iff]
      refine ⟨fun g => hK _ ?_, fun g => ⟨by trivial, m - 1, by omega, k + 1, by rw [addI_i64 (by omega) (by omega)]; rfl, by omega, ?_⟩⟩
      · rw [long_yes gf (show longB f.length = true from g)]; simp
      · rw [long_step gf, hp, show longB f.length = false from g]; rfl
    · have : k = l.length := by simp only [br_iff, need_iff, andB_t, andB_f, orB_t, orB_f, notB_t, notB_f, leI_t, leI_f, ltI_t, ltI_f, eqI_t, eqI_f, leN_t, leN_f, eqN_t, eqN_f, eqS_t, eqS_f, eqB_t, eqB_f, catOk_t, leC_t] at hge; omega
      subst this
      rw [List.take_length] at hp
      exact hK _ (by rw [hp]; rfl)
  · exact h.elim
theorem co_con {n : Nat} (hn : 3 ≤ n) : ConOk (evalF Tryz.prog cfgN n) 87 coCon := by
  intro vs bs K h
  unfold coCon at h
  split at h
  · rename_i xs
    obtain ⟨l, rfl, hb, hK⟩ := h
    refine run_of (lp := lpOf []) (by omega) (ct := ctOf [(99, ixCon)]) (fun k hk => ctOf_ok (ctOf_cons (ixs_con (by omega)) (ctOf_nil _))) ?_
    rw [co_vc]
    refine ⟨l, rfl, hb, fun i hi => ?_⟩
    rw [show leI 0 i = anyLong l from hi]
    exact hK
  · exact h.elim
theorem rightL_end {r : Bool} {t : List UInt8} {l : List (List UInt8)} (h1 : t.length ≤ 1024) (h2 : (r && !decide (t.length = 0)) = false) (h3 : l.length ≤ 1024) (h4 : textOk t = true) : rightL ⟨r, t, l⟩ = !anyLong l := by
  simp only [rightL, h2, h4, decide_eq_true h1, decide_eq_true h3]; simp
theorem eqS_nil (t : List UInt8) : eqS t [] = decide (t.length = 0) := by
  cases t <;> rfl
theorem rg_con {n : Nat} (hn : 4 ≤ n) : ConOk (evalF Tryz.prog cfgN n) 63 rgCon := by
  intro vs bs K h
  unfold rgCon at h
  split at h
  · rename_i r t xs
    obtain ⟨l, rfl, hb, hb2, hK⟩ := h
    refine run_of (lp := lpOf [(4, rgL fun _ _ x m => ∃ k : Nat, x = ⟨(k : Int)⟩ ∧ k + m = t.length ∧ textOk (t.take k) = true)]) (by omega) (ct := ctOf [(86, prCon), (87, coCon)])
      (fun k hk => ctOf_ok (ctOf_cons (pr_con (by omega)) (ctOf_cons (co_con (by omega)) (ctOf_nil _)))) ?_
    rw [rg_vc]
    have no : rightL ⟨r, t, l⟩ = false → K (.bool false) [] := fun h => by rw [h] at hK; exact hK
    have main : t.length ≤ 1024 → (r && !decide (t.length = 0)) = false → rg_vc_1 r t (strV l) (fun _ _ x m => ∃ k : Nat, x = ⟨(k : Int)⟩ ∧ k + m = t.length ∧ textOk (t.take k) = true) K := by
      intro h1 h2
      unfold rg_vc_1
      simp only [strV_lenL]
      rw [br_iff]
      refine ⟨fun g => no ?_, fun g => ⟨⟨t.length, by omega, 0, rfl, by omega, rfl⟩, ?_⟩⟩
      · simp only [br_iff, need_iff, andB_t, andB_f, orB_t, orB_f, notB_t, notB_f, leI_t, leI_f, ltI_t, ltI_f, eqI_t, eqI_f, leN_t, leN_f, eqN_t, eqN_f, eqS_t, eqS_f, eqB_t, eqB_f, catOk_t, leC_t] at g
        simp only [rightL, decide_eq_false (show ¬ l.length ≤ 1024 by omega)]; simp
      have h3 : l.length ≤ 1024 := by simp only [br_iff, need_iff, andB_t, andB_f, orB_t, orB_f, notB_t, notB_f, leI_t, leI_f, ltI_t, ltI_f, eqI_t, eqI_f, leN_t, leN_f, eqN_t, eqN_f, eqS_t, eqS_f, eqB_t, eqB_f, catOk_t, leC_t] at g; omega
      rintro _ m ⟨k, rfl, hk, hp⟩
      dsimp only
      rw [br_iff]
      refine ⟨fun hlt => ?_, fun hge => ?_⟩
      · have hlt : k < t.length := by simp only [br_iff, need_iff, andB_t, andB_f, orB_t, orB_f, notB_t, notB_f, leI_t, leI_f, ltI_t, ltI_f, eqI_t, eqI_f, leN_t, leN_f, eqN_t, eqN_f, eqS_t, eqS_f, eqB_t, eqB_f, catOk_t, leC_t, lenS] at hlt; omega
        rw [need_iff]; refine ⟨by simp only [br_iff, need_iff, andB_t, andB_f, orB_t, orB_f, notB_t, notB_f, leI_t, leI_f, ltI_t, ltI_f, eqI_t, eqI_f, leN_t, leN_f, eqN_t, eqN_f, eqS_t, eqS_f, eqB_t, eqB_f, catOk_t, leC_t, lenS]; omega, ?_⟩
        rw [br_iff]
        refine ⟨fun q => no ?_, fun q => ⟨by trivial, m - 1, by omega, k + 1, by rw [addI_i64 (by omega) (by omega)]; rfl, by omega, ?_⟩⟩
        · simp only [rightL, textOk_no hlt (by simpa only [br_iff, need_iff, andB_t, andB_f, orB_t, orB_f, notB_t, notB_f, leI_t, leI_f, ltI_t, ltI_f, eqI_t, eqI_f, leN_t, leN_f, eqN_t, eqN_f, eqS_t, eqS_f, eqB_t, eqB_f, catOk_t, leC_t] using q)]; simp
        · rw [textOk_step hlt, hp, show prB (atS t (k : Int)) = true by simpa only [br_iff, need_iff, andB_t, andB_f, orB_t, orB_f, notB_t, notB_f, leI_t, leI_f, ltI_t, ltI_f, eqI_t, eqI_f, leN_t, leN_f, eqN_t, eqN_f, eqS_t, eqS_f, eqB_t, eqB_f, catOk_t, leC_t] using q]; rfl
      · have : k = t.length := by simp only [br_iff, need_iff, andB_t, andB_f, orB_t, orB_f, notB_t, notB_f, leI_t, leI_f, ltI_t, ltI_f, eqI_t, eqI_f, leN_t, leN_f, eqN_t, eqN_f, eqS_t, eqS_f, eqB_t, eqB_f, catOk_t, leC_t, lenS] at hge; omega
        subst this
        rw [List.take_length] at hp
        refine ⟨l, rfl, hb, ?_⟩
        rw [rightL_end h1 h2 h3 hp] at hK
        exact hK
    rw [br_iff]
    refine ⟨fun g => no ?_, fun g => ?_⟩
    · simp only [br_iff, need_iff, andB_t, andB_f, orB_t, orB_f, notB_t, notB_f, leI_t, leI_f, ltI_t, ltI_f, eqI_t, eqI_f, leN_t, leN_f, eqN_t, eqN_f, eqS_t, eqS_f, eqB_t, eqB_f, catOk_t, leC_t, lenS] at g
      simp only [rightL, decide_eq_false (show ¬ t.length ≤ 1024 by omega)]; simp
    have h1 : t.length ≤ 1024 := by simp only [br_iff, need_iff, andB_t, andB_f, orB_t, orB_f, notB_t, notB_f, leI_t, leI_f, ltI_t, ltI_f, eqI_t, eqI_f, leN_t, leN_f, eqN_t, eqN_f, eqS_t, eqS_f, eqB_t, eqB_f, catOk_t, leC_t, lenS] at g; omega
    rw [br_iff]
    refine ⟨fun hr => ?_, fun hr => main h1 (by rw [hr]; rfl)⟩
    rw [br_iff, eqS_nil]
    refine ⟨fun q => no ?_, fun q => main h1 (by simpa [notB] using fun _ => q)⟩
    simp only [notB, Bool.not_eq_true'] at q
    simp only [rightL, hr, q]; simp
  · exact h.elim
theorem rrg_con {n : Nat} (hn : 2 ≤ n) : ConOk (evalF Tryz.prog cfgN n) 12 rgCon := by
  intro vs bs K h
  unfold rgCon at h
  split at h
  · rename_i r t xs
    obtain ⟨l, rfl, hb, hb2, hK⟩ := h
    refine run_of (lp := lpOf [(4, rraL fun _ _ x m => ∃ k : Nat, x = ⟨(k : Int)⟩ ∧ k + m = t.length ∧ textOk (t.take k) = true), (9, rrbL fun _ _ x m => ∃ k : Nat, x = ⟨(k : Int)⟩ ∧ k + m = l.length ∧ anyLong (l.take k) = false)]) (by omega)
      (ct := ctOf [(31, prCon)]) (fun k hk => ctOf_ok (ctOf_cons (rpr_con (by omega)) (ctOf_nil _))) ?_
    rw [rrg_vc]
    have no : rightL ⟨r, t, l⟩ = false → K (.bool false) [] := fun h => by rw [h] at hK; exact hK
    have main : t.length ≤ 1024 → (r && !decide (t.length = 0)) = false → rrg_vc_1 r t (strV l) (fun _ _ x m => ∃ k : Nat, x = ⟨(k : Int)⟩ ∧ k + m = t.length ∧ textOk (t.take k) = true) (fun _ _ x m => ∃ k : Nat, x = ⟨(k : Int)⟩ ∧ k + m = l.length ∧ anyLong (l.take k) = false) K := by
      intro h1 h2
      unfold rrg_vc_1
      simp only [strV_lenL]
      rw [br_iff]
      refine ⟨fun g => no ?_, fun g => ⟨⟨t.length, by omega, 0, rfl, by omega, rfl⟩, ?_⟩⟩
      · simp only [br_iff, need_iff, andB_t, andB_f, orB_t, orB_f, notB_t, notB_f, leI_t, leI_f, ltI_t, ltI_f, eqI_t, eqI_f, leN_t, leN_f, eqN_t, eqN_f, eqS_t, eqS_f, eqB_t, eqB_f, catOk_t, leC_t] at g
        simp only [rightL, decide_eq_false (show ¬ l.length ≤ 1024 by omega)]; simp
      have h3 : l.length ≤ 1024 := by simp only [br_iff, need_iff, andB_t, andB_f, orB_t, orB_f, notB_t, notB_f, leI_t, leI_f, ltI_t, ltI_f, eqI_t, eqI_f, leN_t, leN_f, eqN_t, eqN_f, eqS_t, eqS_f, eqB_t, eqB_f, catOk_t, leC_t] at g; omega
      rintro _ m ⟨k, rfl, hk, hp⟩
      dsimp only
      rw [br_iff]
      refine ⟨fun hlt => ?_, fun hge => ?_⟩
      · have hlt : k < t.length := by simp only [br_iff, need_iff, andB_t, andB_f, orB_t, orB_f, notB_t, notB_f, leI_t, leI_f, ltI_t, ltI_f, eqI_t, eqI_f, leN_t, leN_f, eqN_t, eqN_f, eqS_t, eqS_f, eqB_t, eqB_f, catOk_t, leC_t, lenS] at hlt; omega
        rw [need_iff]; refine ⟨by simp only [br_iff, need_iff, andB_t, andB_f, orB_t, orB_f, notB_t, notB_f, leI_t, leI_f, ltI_t, ltI_f, eqI_t, eqI_f, leN_t, leN_f, eqN_t, eqN_f, eqS_t, eqS_f, eqB_t, eqB_f, catOk_t, leC_t, lenS]; omega, ?_⟩
        rw [br_iff]
        refine ⟨fun q => no ?_, fun q => ⟨by trivial, m - 1, by omega, k + 1, by rw [addI_i64 (by omega) (by omega)]; rfl, by omega, ?_⟩⟩
        · simp only [rightL, textOk_no hlt (by simpa only [br_iff, need_iff, andB_t, andB_f, orB_t, orB_f, notB_t, notB_f, leI_t, leI_f, ltI_t, ltI_f, eqI_t, eqI_f, leN_t, leN_f, eqN_t, eqN_f, eqS_t, eqS_f, eqB_t, eqB_f, catOk_t, leC_t] using q)]; simp
        · rw [textOk_step hlt, hp, show prB (atS t (k : Int)) = true by simpa only [br_iff, need_iff, andB_t, andB_f, orB_t, orB_f, notB_t, notB_f, leI_t, leI_f, ltI_t, ltI_f, eqI_t, eqI_f, leN_t, leN_f, eqN_t, eqN_f, eqS_t, eqS_f, eqB_t, eqB_f, catOk_t, leC_t] using q]; rfl
      · have : k = t.length := by simp only [br_iff, need_iff, andB_t, andB_f, orB_t, orB_f, notB_t, notB_f, leI_t, leI_f, ltI_t, ltI_f, eqI_t, eqI_f, leN_t, leN_f, eqN_t, eqN_f, eqS_t, eqS_f, eqB_t, eqB_f, catOk_t, leC_t, lenS] at hge; omega
        subst this
        rw [List.take_length] at hp
        rw [rightL_end h1 h2 h3 hp] at hK
        refine ⟨⟨l.length, by omega, 0, rfl, by omega, rfl⟩, ?_⟩
        rintro _ m ⟨k, rfl, hk, hp⟩
        dsimp only
        rw [br_iff]
        refine ⟨fun hlt => ?_, fun hge => ?_⟩
        · have hlt : k < l.length := by simp only [br_iff, need_iff, andB_t, andB_f, orB_t, orB_f, notB_t, notB_f, leI_t, leI_f, ltI_t, ltI_f, eqI_t, eqI_f, leN_t, leN_f, eqN_t, eqN_f, eqS_t, eqS_f, eqB_t, eqB_f, catOk_t, leC_t] at hlt; omega
          have gf : l[k]? = some l[k] := List.getElem?_eq_getElem hlt
          generalize l[k] = f at gf
          have rf := strV_row gf
          have kf : okRow (strV l) (Int.toNat (k : Int)) 1 = true := by simpa using strV_ok (l := l) (i := k) hlt
          have nf : andB (leI 0 (k : Int)) (ltI (k : Int) (l.length : Int)) = true := by simp only [br_iff, need_iff, andB_t, andB_f, orB_t, orB_f, notB_t, notB_f, leI_t, leI_f, ltI_t, ltI_f, eqI_t, eqI_f, leN_t, leN_f, eqN_t, eqN_f, eqS_t, eqS_f, eqB_t, eqB_f, catOk_t, leC_t]; omega
          rw [need_iff, need_iff]
          refine ⟨nf, kf, ?_⟩
          try rw [rf]
          repeat apply Exists.intro
          refine ⟨rfl, ?_⟩
          rw [br_iff]
          refine ⟨fun g => ?_, fun g => ⟨by trivial, m - 1, by omega, k + 1, by rw [addI_i64 (by omega) (by omega)]; rfl, by omega, ?_⟩⟩
          · rw [long_yes gf (show longB f.length = true from g)] at hK; exact hK
          · rw [long_step gf, hp, show longB f.length = false from g]; rfl
        · have : k = l.length := by simp only [br_iff, need_iff, andB_t, andB_f, orB_t, orB_f, notB_t, notB_f, leI_t, leI_f, ltI_t, ltI_f, eqI_t, eqI_f, leN_t, leN_f, eqN_t, eqN_f, eqS_t, eqS_f, eqB_t, eqB_f, catOk_t, leC_t] at hge; omega
          subst this
          rw [List.take_length] at hp
          rw [hp] at hK; exact hK
    rw [br_iff]
    refine ⟨fun g => no ?_, fun g => ?_⟩
    · simp only [br_iff, need_iff, andB_t, andB_f, orB_t, orB_f, notB_t, notB_f, leI_t, leI_f, ltI_t, ltI_f, eqI_t, eqI_f, leN_t, leN_f, eqN_t, eqN_f, eqS_t, eqS_f, eqB_t, eqB_f, catOk_t, leC_t, lenS] at g
      simp only [rightL, decide_eq_false (show ¬ t.length ≤ 1024 by omega)]; simp
    have h1 : t.length ≤ 1024 := by simp only [br_iff, need_iff, andB_t, andB_f, orB_t, orB_f, notB_t, notB_f, leI_t, leI_f, ltI_t, ltI_f, eqI_t, eqI_f, leN_t, leN_f, eqN_t, eqN_f, eqS_t, eqS_f, eqB_t, eqB_f, catOk_t, leC_t, lenS] at g; omega
    rw [br_iff]
    refine ⟨fun hr => ?_, fun hr => main h1 (by rw [hr]; rfl)⟩
    rw [br_iff, eqS_nil]
    refine ⟨fun q => no ?_, fun q => main h1 (by simpa [notB] using fun _ => q)⟩
    simp only [notB, Bool.not_eq_true'] at q
    simp only [rightL, hr, q]; simp
  · exact h.elim
theorem own_con {n : Nat} (hn : 1 ≤ n) : ConOk (evalF Tryz.prog cfgN n) 70 ownCon := by
  intro vs bs K h
  unfold ownCon at h
  split at h
  · obtain ⟨l, rfl, h1, hK⟩ := h
    refine run_of (lp := lpOf []) hn (fun k _ => noCt_ok _) ?_
    rw [own_vc, need_iff, need_iff, strV_len]
    exact ⟨strV_head _, by simp only [br_iff, need_iff, andB_t, andB_f, orB_t, orB_f, notB_t, notB_f, leI_t, leI_f, ltI_t, ltI_f, eqI_t, eqI_f, leN_t, leN_f, eqN_t, eqN_f, eqS_t, eqS_f, eqB_t, eqB_f, catOk_t, leC_t]; omega, hK⟩
  · exact h.elim
theorem strV_one (s : List UInt8) : [[V.str s]] = strV [s] := rfl
theorem dl_con {n : Nat} (hn : 1 ≤ n) : ConOk (evalF Tryz.prog cfgN n) 92 delivCon := by
  intro vs bs K h
  unfold delivCon at h
  split at h
  · rename_i s r t n' k ys
    obtain ⟨l, rfl, rfl, rfl, h1, hK⟩ := h
    refine run_of (lp := lpOf []) hn (fun k _ => noCt_ok _) ?_
    rw [dl_vc]
    rw [br_iff] at hK ⊢
    refine ⟨fun g => hK.2 (by simp only [br_iff, need_iff, andB_t, andB_f, orB_t, orB_f, notB_t, notB_f, leI_t, leI_f, ltI_t, ltI_f, eqI_t, eqI_f, leN_t, leN_f, eqN_t, eqN_f, eqS_t, eqS_f, eqB_t, eqB_f, catOk_t, leC_t] at g ⊢; exact g), fun g => ?_⟩
    have hK := hK.1 (by simp only [br_iff, need_iff, andB_t, andB_f, orB_t, orB_f, notB_t, notB_f, leI_t, leI_f, ltI_t, ltI_f, eqI_t, eqI_f, leN_t, leN_f, eqN_t, eqN_f, eqS_t, eqS_f, eqB_t, eqB_f, catOk_t, leC_t] at g ⊢; exact g)
    simp only [leN_succ, eqN_self, leI_self, br_ff, br_tt, need_tt, andB_tt, List.drop_zero, List.nil_append, List.append_nil, Nat.zero_add, Nat.add_zero, Nat.sub_zero, List.take_length, Int.ofNat_eq_natCast, Int.toNat_natCast, Int.toNat_zero, strV_len, strV_one, strV_app]
    rw [need_iff, need_iff]
    exact ⟨strV_head _, by simp only [br_iff, need_iff, andB_t, andB_f, orB_t, orB_f, notB_t, notB_f, leI_t, leI_f, ltI_t, ltI_f, eqI_t, eqI_f, leN_t, leN_f, eqN_t, eqN_f, eqS_t, eqS_f, eqB_t, eqB_f, catOk_t, leC_t]; omega, hK⟩
  · exact h.elim
theorem er_con {n : Nat} (hn : 2 ≤ n) : ConOk (evalF Tryz.prog cfgN n) 93 erasedCon := by
  intro vs bs K h
  unfold erasedCon at h
  split at h
  · rename_i t c
    obtain ⟨hb, hK⟩ := h
    refine run_of (lp := lpOf [(6, erL fun _ _ x m => ∃ j : Nat, x = ⟨(j : Int)⟩ ∧ j = m ∧ j ≤ t.length ∧ scanB blB t t.length = scanB blB t j), (8, erL fun _ _ x m => ∃ j : Nat, x = ⟨(j : Int)⟩ ∧ j = m ∧ j ≤ t.length ∧ scanB nbl t (scanB blB t t.length) = scanB nbl t j)]) (by omega)
      (ct := ctOf [(102, blCon)]) (fun k hk => ctOf_ok (ctOf_cons (bl_con (by omega)) (ctOf_nil _))) ?_
    rw [er_vc]
    rw [br_iff]
    refine ⟨fun g => ?_, fun g => ?_⟩
    · simp only [br_iff, need_iff, andB_t, andB_f, orB_t, orB_f, notB_t, notB_f, leI_t, leI_f, ltI_t, ltI_f, eqI_t, eqI_f, leN_t, leN_f, eqN_t, eqN_f, eqS_t, eqS_f, eqB_t, eqB_f, catOk_t, leC_t] at g
      unfold erasedN at hK
      rw [if_pos g] at hK; exact hK
    have g21 : ¬ c = 21 := by simpa only [br_iff, need_iff, andB_t, andB_f, orB_t, orB_f, notB_t, notB_f, leI_t, leI_f, ltI_t, ltI_f, eqI_t, eqI_f, leN_t, leN_f, eqN_t, eqN_f, eqS_t, eqS_f, eqB_t, eqB_f, catOk_t, leC_t] using g
    rw [br_iff]
    refine ⟨fun g => ?_, fun g => ?_⟩
    · have g23 : c = 23 := by simpa only [br_iff, need_iff, andB_t, andB_f, orB_t, orB_f, notB_t, notB_f, leI_t, leI_f, ltI_t, ltI_f, eqI_t, eqI_f, leN_t, leN_f, eqN_t, eqN_f, eqS_t, eqS_f, eqB_t, eqB_f, catOk_t, leC_t] using g
      unfold erasedN at hK
      rw [if_neg g21, if_pos g23] at hK
      have main : ∀ j : Nat, j ≤ t.length → scanB blB t t.length = j → er_vc_1 t c (fun _ _ x m => ∃ j : Nat, x = ⟨(j : Int)⟩ ∧ j = m ∧ j ≤ t.length ∧ scanB blB t t.length = scanB blB t j) (fun _ _ x m => ∃ j : Nat, x = ⟨(j : Int)⟩ ∧ j = m ∧ j ≤ t.length ∧ scanB nbl t (scanB blB t t.length) = scanB nbl t j) K ⟨(j : Int)⟩ := by
        intro j hj he
        unfold er_vc_1
        refine ⟨⟨j, by omega, j, rfl, rfl, hj, by rw [he]⟩, ?_⟩
        rintro _ m ⟨i, rfl, rfl, hi, hp⟩
        dsimp only
        have fin : scanB nbl t i = i → K (.int .i64 (subI .i64 (lenS t) (i : Int))) [] := by
          intro e
          have : wordN t = t.length - i := by unfold wordN; rw [hp, e]
          rw [this] at hK
          rw [subI_i64 (by unfold lenS; omega) (by unfold lenS; omega)]
          rw [show lenS t - (i : Int) = Int.ofNat (t.length - i) by unfold lenS; simp; omega]
          exact hK
        rw [br_iff]
        refine ⟨fun q => ?_, fun q => fin (by simp only [br_iff, need_iff, andB_t, andB_f, orB_t, orB_f, notB_t, notB_f, leI_t, leI_f, ltI_t, ltI_f, eqI_t, eqI_f, leN_t, leN_f, eqN_t, eqN_f, eqS_t, eqS_f, eqB_t, eqB_f, catOk_t, leC_t] at q; obtain rfl : i = 0 := by omega
                                              rfl)⟩
        obtain ⟨k, rfl⟩ : ∃ k, i = k + 1 := ⟨i - 1, by simp only [br_iff, need_iff, andB_t, andB_f, orB_t, orB_f, notB_t, notB_f, leI_t, leI_f, ltI_t, ltI_f, eqI_t, eqI_f, leN_t, leN_f, eqN_t, eqN_f, eqS_t, eqS_f, eqB_t, eqB_f, catOk_t, leC_t] at q; omega⟩
        have e1 : subI .i64 ((k + 1 : Nat) : Int) 1 = (k : Int) := by rw [subI_i64 (by omega) (by omega)]; omega
        rw [e1, need_iff]
        refine ⟨by simp only [br_iff, need_iff, andB_t, andB_f, orB_t, orB_f, notB_t, notB_f, leI_t, leI_f, ltI_t, ltI_f, eqI_t, eqI_f, leN_t, leN_f, eqN_t, eqN_f, eqS_t, eqS_f, eqB_t, eqB_f, catOk_t, leC_t, lenS]; omega, ?_⟩
        rw [br_iff]
        refine ⟨fun w => ⟨by trivial, k, by omega, k, rfl, rfl, by omega, ?_⟩, fun w => fin ?_⟩
        · rw [hp, scanB, if_pos (show nbl ((t.getD k 0).toNat : Int) = true from w)]
        · rw [scanB, if_neg (show ¬ nbl ((t.getD k 0).toNat : Int) = true by rw [show nbl ((t.getD k 0).toNat : Int) = false from w]; simp)]
      refine ⟨⟨t.length, by omega, t.length, rfl, rfl, by omega, rfl⟩, ?_⟩
      rintro _ m ⟨i, rfl, rfl, hi, hp⟩
      dsimp only
      rw [br_iff]
      refine ⟨fun q => ?_, fun q => main i hi (by simp only [br_iff, need_iff, andB_t, andB_f, orB_t, orB_f, notB_t, notB_f, leI_t, leI_f, ltI_t, ltI_f, eqI_t, eqI_f, leN_t, leN_f, eqN_t, eqN_f, eqS_t, eqS_f, eqB_t, eqB_f, catOk_t, leC_t] at q; obtain rfl : i = 0 := by omega
                                                  rw [hp]; rfl)⟩
      obtain ⟨k, rfl⟩ : ∃ k, i = k + 1 := ⟨i - 1, by simp only [br_iff, need_iff, andB_t, andB_f, orB_t, orB_f, notB_t, notB_f, leI_t, leI_f, ltI_t, ltI_f, eqI_t, eqI_f, leN_t, leN_f, eqN_t, eqN_f, eqS_t, eqS_f, eqB_t, eqB_f, catOk_t, leC_t] at q; omega⟩
      have e1 : subI .i64 ((k + 1 : Nat) : Int) 1 = (k : Int) := by rw [subI_i64 (by omega) (by omega)]; omega
      rw [e1, need_iff]
      refine ⟨by simp only [br_iff, need_iff, andB_t, andB_f, orB_t, orB_f, notB_t, notB_f, leI_t, leI_f, ltI_t, ltI_f, eqI_t, eqI_f, leN_t, leN_f, eqN_t, eqN_f, eqS_t, eqS_f, eqB_t, eqB_f, catOk_t, leC_t, lenS]; omega, ?_⟩
      rw [br_iff]
      refine ⟨fun w => ⟨by trivial, k, by omega, k, rfl, rfl, by omega, ?_⟩, fun w => main _ hi ?_⟩
      · rw [hp, scanB, if_pos (show blB ((t.getD k 0).toNat : Int) = true from w)]
      · rw [hp, scanB, if_neg (show ¬ blB ((t.getD k 0).toNat : Int) = true by rw [show blB ((t.getD k 0).toNat : Int) = false from w]; simp)]
    · have g23 : ¬ c = 23 := by simpa only [br_iff, need_iff, andB_t, andB_f, orB_t, orB_f, notB_t, notB_f, leI_t, leI_f, ltI_t, ltI_f, eqI_t, eqI_f, leN_t, leN_f, eqN_t, eqN_f, eqS_t, eqS_f, eqB_t, eqB_f, catOk_t, leC_t] using g
      unfold erasedN at hK
      rw [if_neg g21, if_neg g23] at hK
      have : minI (lenS t) 1 = Int.ofNat (min t.length 1) := by unfold minI lenS; simp; omega
      rw [this]; exact hK
  · exact h.elim
end Go.Proofs.YtdbbpibfejchfaaGreatDoor
namespace Go.Proofs.YtdbbpibfejchfaaGreatDoor
open Go.RowKit
set_option maxRecDepth 100000
set_option linter.unusedVariables false
set_option linter.unusedSimpArgs false
theorem cutS_take {t : List UInt8} {k : Nat} (h : k ≤ t.length) : cutS t 0 (subI .i64 (lenS t) (Int.ofNat k)) = t.take (t.length - k) ∨ 9000000000000000000 < t.length := by
  by_cases hb : t.length ≤ 9000000000000000000
  · left
    rw [subI_i64 (by unfold lenS; simp; omega) (by unfold lenS; simp; omega)]
    rw [show lenS t - Int.ofNat k = ((t.length - k : Nat) : Int) by unfold lenS; simp; omega]
    simp [cutS]
  · right; omega
theorem ty_con {n : Nat} (hn : 3 ≤ n) : ConOk (evalF Tryz.prog cfgN n) 72 typedCon := by
  intro vs bs K h
  unfold typedCon at h
  split at h
  · rename_i c r t n' k ys
    obtain ⟨l, rfl, rfl, rfl, hR, h0, h1, hA, hB⟩ := h
    refine run_of (lp := lpOf []) (by omega) (ct := ctOf [(86, prCon), (92, delivCon), (93, erasedCon)])
      (fun k hk => ctOf_ok (ctOf_cons (pr_con (by omega)) (ctOf_cons (dl_con (by omega)) (ctOf_cons (er_con (by omega)) (ctOf_nil _))))) ?_
    rw [ty_vc]
    obtain ⟨a1, a2, a3, a4, a5⟩ := (rightL_iff _).1 hR
    dsimp only at a1 a2 a3 a4 a5
    have fA : ∀ {l' : Line} {e : List UInt8}, typeF ⟨r, t, l⟩ c = (l', e) → K (.str e) [⟨true, true, true, [[.bool l'.raw, .str l'.text, .ref 1 0 l'.ready.length l'.ready.length]], 0⟩, ⟨true, false, true, strV l'.ready, 0⟩] := fun h => by rw [h] at hA; exact hA
    have fB : ∀ {l' : Line} {e : List UInt8}, typeF ⟨r, t, l⟩ c = (l', e) → K (.str e) [⟨true, true, true, [[.bool l'.raw, .str l'.text, .ref 2 0 l'.ready.length l'.ready.length]], 0⟩, ⟨false, false, true, [], 0⟩, ⟨true, false, true, strV l'.ready, 0⟩] := fun h => by rw [h] at hB; exact hB
    clear hA hB
    rw [br_iff]
    refine ⟨fun hr => ?_, fun hr => ?_⟩
    · subst hr
      refine ⟨l, rfl, rfl, rfl, by omega, ?_⟩
      rw [br_iff]
      refine ⟨fun g => ?_, fun g => ?_⟩
      · have := fB (l' := ⟨true, t, l ++ [byteL c]⟩) (e := []) (by unfold typeF; rw [if_pos rfl, if_pos (by simp only [br_iff, need_iff, andB_t, andB_f, orB_t, orB_f, notB_t, notB_f, leI_t, leI_f, ltI_t, ltI_f, eqI_t, eqI_f, leN_t, leN_f, eqN_t, eqN_f, eqS_t, eqS_f, eqB_t, eqB_f, catOk_t, leC_t, Int.ofNat_eq_natCast] at g; show l.length < 1024; omega)])
        simp only [List.length_append, List.length_cons, List.length_nil, Nat.zero_add] at this; exact this
      · exact fA (l' := ⟨true, t, l⟩) (e := []) (by unfold typeF; rw [if_pos rfl, if_neg (by simp only [br_iff, need_iff, andB_t, andB_f, orB_t, orB_f, notB_t, notB_f, leI_t, leI_f, ltI_t, ltI_f, eqI_t, eqI_f, leN_t, leN_f, eqN_t, eqN_f, eqS_t, eqS_f, eqB_t, eqB_f, catOk_t, leC_t, Int.ofNat_eq_natCast] at g; show ¬ l.length < 1024; omega)])
    subst hr
    have era : c = 8 ∨ c = 127 ∨ c = 21 ∨ c = 23 → ty_vc_1 false t l.length l.length (strV l) c K := by
      intro hc
      have hle := erasedN_le t c
      unfold ty_vc_1
      refine ⟨by omega, ?_⟩
      have e1 : subI .i64 (lenS t) (Int.ofNat (erasedN t c)) = ((t.length - erasedN t c : Nat) : Int) := by
        rw [subI_i64 (by unfold lenS; simp; omega) (by unfold lenS; simp; omega)]
        unfold lenS; simp; omega
      rw [need_iff, e1]; refine ⟨by simp only [br_iff, need_iff, andB_t, andB_f, orB_t, orB_f, notB_t, notB_f, leI_t, leI_f, ltI_t, ltI_f, eqI_t, eqI_f, leN_t, leN_f, eqN_t, eqN_f, eqS_t, eqS_f, eqB_t, eqB_f, catOk_t, leC_t, lenS]; omega, ?_⟩
      rw [need_iff]; refine ⟨by simp only [br_iff, need_iff, andB_t, andB_f, orB_t, orB_f, notB_t, notB_f, leI_t, leI_f, ltI_t, ltI_f, eqI_t, eqI_f, leN_t, leN_f, eqN_t, eqN_f, eqS_t, eqS_f, eqB_t, eqB_f, catOk_t, leC_t, andB_tt, Int.ofNat_eq_natCast, Int.toNat_natCast]; omega, ?_⟩
      have := fA (l' := ⟨false, t.take (t.length - erasedN t c), l⟩) (e := rub (erasedN t c)) (by unfold typeF; rw [if_neg (by simp), if_pos hc]; rfl)
      exact this
    have nl : c = 10 ∨ c = 13 → ty_vc_2 false t l.length l.length (strV l) c K := by
      intro hc
      unfold ty_vc_2
      rw [need_iff]; refine ⟨by simp only [br_iff, need_iff, andB_t, andB_f, orB_t, orB_f, notB_t, notB_f, leI_t, leI_f, ltI_t, ltI_f, eqI_t, eqI_f, leN_t, leN_f, eqN_t, eqN_f, eqS_t, eqS_f, eqB_t, eqB_f, catOk_t, leC_t, List.length_singleton]; omega, l, rfl, rfl, rfl, by omega, ?_⟩
      rw [br_iff]
      refine ⟨fun g => ?_, fun g => ?_⟩
      · have := fB (l' := ⟨false, [], l ++ [t ++ [10]]⟩) (e := [10]) (by unfold typeF; rw [if_neg (by simp), if_neg (by omega), if_pos hc, if_pos (by simp only [br_iff, need_iff, andB_t, andB_f, orB_t, orB_f, notB_t, notB_f, leI_t, leI_f, ltI_t, ltI_f, eqI_t, eqI_f, leN_t, leN_f, eqN_t, eqN_f, eqS_t, eqS_f, eqB_t, eqB_f, catOk_t, leC_t, Int.ofNat_eq_natCast] at g; show l.length < 1024; omega)])
        simp only [List.length_append, List.length_cons, List.length_nil, Nat.zero_add] at this; exact this
      · exact fA (l' := ⟨false, t, l⟩) (e := []) (by unfold typeF; rw [if_neg (by simp), if_neg (by omega), if_pos hc, if_neg (by simp only [br_iff, need_iff, andB_t, andB_f, orB_t, orB_f, notB_t, notB_f, leI_t, leI_f, ltI_t, ltI_f, eqI_t, eqI_f, leN_t, leN_f, eqN_t, eqN_f, eqS_t, eqS_f, eqB_t, eqB_f, catOk_t, leC_t, Int.ofNat_eq_natCast] at g; show ¬ l.length < 1024; omega)])
    rw [br_iff]; refine ⟨fun g => era (by simp only [br_iff, need_iff, andB_t, andB_f, orB_t, orB_f, notB_t, notB_f, leI_t, leI_f, ltI_t, ltI_f, eqI_t, eqI_f, leN_t, leN_f, eqN_t, eqN_f, eqS_t, eqS_f, eqB_t, eqB_f, catOk_t, leC_t] at g; omega), fun g8 => ?_⟩
    rw [br_iff]; refine ⟨fun g => era (by simp only [br_iff, need_iff, andB_t, andB_f, orB_t, orB_f, notB_t, notB_f, leI_t, leI_f, ltI_t, ltI_f, eqI_t, eqI_f, leN_t, leN_f, eqN_t, eqN_f, eqS_t, eqS_f, eqB_t, eqB_f, catOk_t, leC_t] at g; omega), fun g127 => ?_⟩
    rw [br_iff]; refine ⟨fun g => era (by simp only [br_iff, need_iff, andB_t, andB_f, orB_t, orB_f, notB_t, notB_f, leI_t, leI_f, ltI_t, ltI_f, eqI_t, eqI_f, leN_t, leN_f, eqN_t, eqN_f, eqS_t, eqS_f, eqB_t, eqB_f, catOk_t, leC_t] at g; omega), fun g21 => ?_⟩
    rw [br_iff]; refine ⟨fun g => era (by simp only [br_iff, need_iff, andB_t, andB_f, orB_t, orB_f, notB_t, notB_f, leI_t, leI_f, ltI_t, ltI_f, eqI_t, eqI_f, leN_t, leN_f, eqN_t, eqN_f, eqS_t, eqS_f, eqB_t, eqB_f, catOk_t, leC_t] at g; omega), fun g23 => ?_⟩
    rw [br_iff]; refine ⟨fun g => nl (by simp only [br_iff, need_iff, andB_t, andB_f, orB_t, orB_f, notB_t, notB_f, leI_t, leI_f, ltI_t, ltI_f, eqI_t, eqI_f, leN_t, leN_f, eqN_t, eqN_f, eqS_t, eqS_f, eqB_t, eqB_f, catOk_t, leC_t] at g; omega), fun g10 => ?_⟩
    rw [br_iff]; refine ⟨fun g => nl (by simp only [br_iff, need_iff, andB_t, andB_f, orB_t, orB_f, notB_t, notB_f, leI_t, leI_f, ltI_t, ltI_f, eqI_t, eqI_f, leN_t, leN_f, eqN_t, eqN_f, eqS_t, eqS_f, eqB_t, eqB_f, catOk_t, leC_t] at g; omega), fun g13 => ?_⟩
    simp only [br_iff, need_iff, andB_t, andB_f, orB_t, orB_f, notB_t, notB_f, leI_t, leI_f, ltI_t, ltI_f, eqI_t, eqI_f, leN_t, leN_f, eqN_t, eqN_f, eqS_t, eqS_f, eqB_t, eqB_f, catOk_t, leC_t] at g8 g127 g21 g23 g10 g13
    rw [br_iff]; refine ⟨fun g => ?_, fun g4 => ?_⟩
    · have hc : c = 4 := by simpa only [br_iff, need_iff, andB_t, andB_f, orB_t, orB_f, notB_t, notB_f, leI_t, leI_f, ltI_t, ltI_f, eqI_t, eqI_f, leN_t, leN_f, eqN_t, eqN_f, eqS_t, eqS_f, eqB_t, eqB_f, catOk_t, leC_t] using g
      refine ⟨l, rfl, rfl, rfl, by omega, ?_⟩
      rw [br_iff]
      refine ⟨fun g => ?_, fun g => ?_⟩
      · have := fB (l' := ⟨false, [], l ++ [t]⟩) (e := []) (by unfold typeF; rw [if_neg (by simp), if_neg (by omega), if_neg (by omega), if_pos hc, if_pos (by simp only [br_iff, need_iff, andB_t, andB_f, orB_t, orB_f, notB_t, notB_f, leI_t, leI_f, ltI_t, ltI_f, eqI_t, eqI_f, leN_t, leN_f, eqN_t, eqN_f, eqS_t, eqS_f, eqB_t, eqB_f, catOk_t, leC_t, Int.ofNat_eq_natCast] at g; show l.length < 1024; omega)])
        simp only [List.length_append, List.length_cons, List.length_nil, Nat.zero_add] at this; exact this
      · exact fA (l' := ⟨false, t, l⟩) (e := []) (by unfold typeF; rw [if_neg (by simp), if_neg (by omega), if_neg (by omega), if_pos hc, if_neg (by simp only [br_iff, need_iff, andB_t, andB_f, orB_t, orB_f, notB_t, notB_f, leI_t, leI_f, ltI_t, ltI_f, eqI_t, eqI_f, leN_t, leN_f, eqN_t, eqN_f, eqS_t, eqS_f, eqB_t, eqB_f, catOk_t, leC_t, Int.ofNat_eq_natCast] at g; show ¬ l.length < 1024; omega)])
    simp only [br_iff, need_iff, andB_t, andB_f, orB_t, orB_f, notB_t, notB_f, leI_t, leI_f, ltI_t, ltI_f, eqI_t, eqI_f, leN_t, leN_f, eqN_t, eqN_f, eqS_t, eqS_f, eqB_t, eqB_f, catOk_t, leC_t] at g4
    rw [br_iff]; refine ⟨fun gp => ?_, fun gp => ?_⟩
    · rw [br_iff]; refine ⟨fun g => ?_, fun g => ?_⟩
      · rw [need_iff]; refine ⟨by simp only [br_iff, need_iff, andB_t, andB_f, orB_t, orB_f, notB_t, notB_f, leI_t, leI_f, ltI_t, ltI_f, eqI_t, eqI_f, leN_t, leN_f, eqN_t, eqN_f, eqS_t, eqS_f, eqB_t, eqB_f, catOk_t, leC_t, List.length_singleton]; omega, ?_⟩
        exact fA (l' := ⟨false, t ++ byteL c, l⟩) (e := byteL c) (by unfold typeF; rw [if_neg (by simp), if_neg (by omega), if_neg (by omega), if_neg g4, if_pos gp, if_pos (by simp only [br_iff, need_iff, andB_t, andB_f, orB_t, orB_f, notB_t, notB_f, leI_t, leI_f, ltI_t, ltI_f, eqI_t, eqI_f, leN_t, leN_f, eqN_t, eqN_f, eqS_t, eqS_f, eqB_t, eqB_f, catOk_t, leC_t, lenS] at g; simp only; omega)])
      · exact fA (l' := ⟨false, t, l⟩) (e := []) (by unfold typeF; rw [if_neg (by simp), if_neg (by omega), if_neg (by omega), if_neg g4, if_pos gp, if_neg (by simp only [br_iff, need_iff, andB_t, andB_f, orB_t, orB_f, notB_t, notB_f, leI_t, leI_f, ltI_t, ltI_f, eqI_t, eqI_f, leN_t, leN_f, eqN_t, eqN_f, eqS_t, eqS_f, eqB_t, eqB_f, catOk_t, leC_t, lenS] at g; simp only; omega)])
    · exact fA (l' := ⟨false, t, l⟩) (e := []) (by unfold typeF; rw [if_neg (by simp), if_neg (by omega), if_neg (by omega), if_neg g4, if_neg (by rw [gp]; simp)])
  · exact h.elim
theorem feedF_take {l : Line} {s : List UInt8} {k : Nat} (h : k < s.length) : feedF l (s.take (k + 1)) = ((typeF (feedF l (s.take k)).1 (atS s (k : Int))).1, (feedF l (s.take k)).2 ++ (typeF (feedF l (s.take k)).1 (atS s (k : Int))).2) := by
  rw [List.take_succ_eq_append_getElem h, feedF_snoc, atS_at h]
def fdI (l : Line) (s : List UInt8) (x : fdX) (m : Nat) : Prop := ∃ k : Nat, k + m = s.length ∧
  x = ⟨(feedF l (s.take k)).1.raw, (feedF l (s.take k)).1.text, (feedF l (s.take k)).1.ready.length, (feedF l (s.take k)).1.ready.length, strV (feedF l (s.take k)).1.ready,
    (feedF l (s.take k)).2.length, (feedF l (s.take k)).2.length, rowsB (feedF l (s.take k)).2, (k : Int)⟩
theorem fd_con {n : Nat} (hn : 4 ≤ n) : ConOk (evalF Tryz.prog cfgN n) 38 feedCon := by
  intro vs bs K h
  unfold feedCon at h
  split at h
  · rename_i r t xs s
    obtain ⟨l, rfl, hR, hs, hK⟩ := h
    obtain ⟨a1, a2, a3, a4, a5⟩ := (rightL_iff _).1 hR
    dsimp only at a1 a2 a3 a4 a5
    refine run_of (lp := lpOf [(4, fdL fun _ _ x m => fdI ⟨r, t, l⟩ s x m)]) (by omega) (ct := ctOf [(70, ownCon), (72, typedCon), (71, inlC Tryz.prog cfgN (ctOf []) 71)])
      (fun k hk => ctOf_ok (ctOf_cons (own_con (by omega)) (ctOf_cons (ty_con (by omega)) (ctOf_cons (inl_ok (by omega) (fun _ _ => noCt_ok _)) (ctOf_nil _))))) ?_
    rw [fd_vc]
    refine ⟨l, rfl, by omega, ⟨s.length, by omega, 0, by omega, rfl⟩, ?_⟩
    rintro _ m ⟨k, hk, rfl⟩
    have hR' := feedF_right (s.take k) hR
    have hE := feedF_echo (s.take k) hR
    rw [List.length_take] at hE
    generalize hq : feedF ⟨r, t, l⟩ (s.take k) = q at hR' hE ⊢
    obtain ⟨⟨r', t', l'⟩, e⟩ := q
    dsimp only at hR' hE ⊢
    rw [br_iff]
    refine ⟨fun hlt => ?_, fun hge => ?_⟩
    · have hlt : k < s.length := by simp only [br_iff, need_iff, andB_t, andB_f, orB_t, orB_f, notB_t, notB_f, leI_t, leI_f, ltI_t, ltI_f, eqI_t, eqI_f, leN_t, leN_f, eqN_t, eqN_f, eqS_t, eqS_f, eqB_t, eqB_f, catOk_t, leC_t, lenS] at hlt; omega
      have hb : 0 ≤ atS s (k : Int) ∧ atS s (k : Int) ≤ 255 := by rw [atS_at hlt]; exact byte255 _
      have hstep := feedF_take (l := ⟨r, t, l⟩) hlt
      rw [hq] at hstep
      dsimp only at hstep
      rw [need_iff]; refine ⟨by simp only [br_iff, need_iff, andB_t, andB_f, orB_t, orB_f, notB_t, notB_f, leI_t, leI_f, ltI_t, ltI_f, eqI_t, eqI_f, leN_t, leN_f, eqN_t, eqN_f, eqS_t, eqS_f, eqB_t, eqB_f, catOk_t, leC_t, lenS]; omega, l', rfl, rfl, rfl, hR', hb.1, hb.2, ?_⟩
      have hE2 := typeF_echo hR' (atS s (k : Int))
      have main : need (headOkP 1 (rowsB (typeF ⟨r', t', l'⟩ (atS s (k : Int))).2)) (fd_vc_1 r t (strV l) s (fun _ _ x m => fdI ⟨r, t, l⟩ s x m) K ⟨r', t', l'.length, l'.length, strV l', e.length, e.length, rowsB e, (k : Int)⟩ l' m l) := by
        rw [need_iff]; refine ⟨rowsB_head _, ?_⟩
        unfold fd_vc_1
        simp only [rowsB_fold]
        generalize hw : typeF ⟨r', t', l'⟩ (atS s (k : Int)) = w at hE2 hstep ⊢
        obtain ⟨⟨r2, t2, l2⟩, e2⟩ := w
        dsimp only at hE2 hstep ⊢
        have ek : addI .i64 (k : Int) 1 = ((k + 1 : Nat) : Int) := by rw [addI_i64 (by omega) (by omega)]; rfl
        rw [ek]
        simp only [rowsB_len]
        rw [need_iff]; refine ⟨rowsB_head _, ?_⟩
        rw [br_iff]
        refine ⟨fun g => ⟨by trivial, m - 1, by omega, k + 1, by omega, ?_⟩, fun g => ?_⟩
        · have g : e2.length = 0 := by simp only [br_iff, need_iff, andB_t, andB_f, orB_t, orB_f, notB_t, notB_f, leI_t, leI_f, ltI_t, ltI_f, eqI_t, eqI_f, leN_t, leN_f, eqN_t, eqN_f, eqS_t, eqS_f, eqB_t, eqB_f, catOk_t, leC_t] at g; omega
          obtain rfl := List.length_eq_zero_iff.1 g
          rw [hstep]
          simp only [leN_succ, eqN_self, leI_self, br_ff, br_tt, need_tt, andB_tt, List.drop_zero, List.nil_append, List.append_nil, Nat.zero_add, Nat.add_zero, Nat.sub_zero, List.take_length, Int.ofNat_eq_natCast, Int.toNat_natCast, Int.toNat_zero, take_rowsB, rowsB_len, List.length_nil, show rowsB [] = [] from rfl]
          rw [List.drop_of_length_le (by rw [rowsB_len]; omega), List.append_nil]
        · rw [need_iff]; refine ⟨by simp only [br_iff, need_iff, andB_t, andB_f, orB_t, orB_f, notB_t, notB_f, leI_t, leI_f, ltI_t, ltI_f, eqI_t, eqI_f, leN_t, leN_f, eqN_t, eqN_f, eqS_t, eqS_f, eqB_t, eqB_f, catOk_t, leC_t, rowsB_len]; omega, ?_⟩
          rw [need_iff]; refine ⟨by simp only [br_iff, need_iff, andB_t, andB_f, orB_t, orB_f, notB_t, notB_f, leI_t, leI_f, ltI_t, ltI_f, eqI_t, eqI_f, leN_t, leN_f, eqN_t, eqN_f, eqS_t, eqS_f, eqB_t, eqB_f, catOk_t, leC_t]; omega, by trivial, m - 1, by omega, k + 1, by omega, ?_⟩
          rw [hstep]
          simp only [leN_succ, eqN_self, leI_self, br_ff, br_tt, need_tt, andB_tt, List.drop_zero, List.nil_append, List.append_nil, Nat.zero_add, Nat.add_zero, Nat.sub_zero, List.take_length, Int.ofNat_eq_natCast, Int.toNat_natCast, Int.toNat_zero, rowsB_app, List.length_append]
      exact ⟨main, main⟩
    · have hk2 : k = s.length := by simp only [br_iff, need_iff, andB_t, andB_f, orB_t, orB_f, notB_t, notB_f, leI_t, leI_f, ltI_t, ltI_f, eqI_t, eqI_f, leN_t, leN_f, eqN_t, eqN_f, eqS_t, eqS_f, eqB_t, eqB_f, catOk_t, leC_t, lenS] at hge; omega
      subst hk2
      rw [List.take_length] at hq
      rw [hq] at hK
      simp only [take_rowsB, leN_succ, eqN_self, leI_self, br_ff, br_tt, need_tt, andB_tt, List.drop_zero, List.nil_append, List.append_nil, Nat.zero_add, Nat.add_zero, Nat.sub_zero, List.take_length, Int.ofNat_eq_natCast, Int.toNat_natCast, Int.toNat_zero, strV_all]
      rw [need_iff]; refine ⟨okBytes_rowsB _, ?_⟩
      rw [need_iff]; refine ⟨exactB_rowsB _, ?_⟩
      rw [need_iff]; refine ⟨by simp only [br_iff, need_iff, andB_t, andB_f, orB_t, orB_f, notB_t, notB_f, leI_t, leI_f, ltI_t, ltI_f, eqI_t, eqI_f, leN_t, leN_f, eqN_t, eqN_f, eqS_t, eqS_f, eqB_t, eqB_f, catOk_t, leC_t]; omega, ?_⟩
      rw [bytesOf_rowsB]
      exact hK
  · exact h.elim
theorem readN_le (count : Int) (f : List UInt8) : readN count f ≤ f.length ∧ minI (maxI count 0) (lenS f) = (readN count f : Int) := by
  unfold readN minI maxI lenS; omega
theorem readF_cons {r : Bool} {t f : List UInt8} {l : List (List UInt8)} {n : Int} : readF ⟨r, t, f :: l⟩ n = if readN n f = f.length then (⟨r, t, l⟩, f, false) else (⟨r, t, f.drop (readN n f) :: l⟩, f.take (readN n f), false) := rfl
theorem rd_con {n : Nat} (hn : 2 ≤ n) : ConOk (evalF Tryz.prog cfgN n) 36 readCon := by
  intro vs bs K h
  unfold readCon at h
  split at h
  · rename_i r t xs c
    obtain ⟨l, rfl, hR, hK⟩ := h
    obtain ⟨a1, a2, a3, a4, a5⟩ := (rightL_iff _).1 hR
    dsimp only at a1 a2 a3 a4 a5
    refine run_of (lp := lpOf []) (by omega) (ct := ctOf [(70, ownCon)]) (fun k hk => ctOf_ok (ctOf_cons (own_con (by omega)) (ctOf_nil _))) ?_
    rw [rd_vc]
    refine ⟨l, rfl, by omega, ?_⟩
    rcases l with _ | ⟨f, l⟩
    · rw [br_iff]; exact ⟨fun _ => hK, fun g => by simp [eqI] at g⟩
    rw [br_iff]
    refine ⟨fun g => by simp only [br_iff, need_iff, andB_t, andB_f, orB_t, orB_f, notB_t, notB_f, leI_t, leI_f, ltI_t, ltI_f, eqI_t, eqI_f, leN_t, leN_f, eqN_t, eqN_f, eqS_t, eqS_f, eqB_t, eqB_f, catOk_t, leC_t, List.length_cons, Int.ofNat_eq_natCast] at g; omega, fun _ => ?_⟩
    obtain ⟨h1, h2⟩ := readN_le c f
    rw [readF_cons] at hK
    simp only [leN_succ, eqN_self, leI_self, br_ff, br_tt, need_tt, andB_tt, List.drop_zero, List.nil_append, List.append_nil, Nat.zero_add, Nat.add_zero, Nat.sub_zero, List.take_length, Int.ofNat_eq_natCast, Int.toNat_natCast, Int.toNat_zero, List.length_cons]
    rw [need_iff]; refine ⟨by simp only [br_iff, need_iff, andB_t, andB_f, orB_t, orB_f, notB_t, notB_f, leI_t, leI_f, ltI_t, ltI_f, eqI_t, eqI_f, leN_t, leN_f, eqN_t, eqN_f, eqS_t, eqS_f, eqB_t, eqB_f, catOk_t, leC_t]; omega, ?_⟩
    rw [need_iff]; refine ⟨rfl, f, rfl, ?_⟩
    rw [h2]
    rw [br_iff]
    refine ⟨fun g => ?_, fun g => ?_⟩
    · have g : readN c f = f.length := by simp only [br_iff, need_iff, andB_t, andB_f, orB_t, orB_f, notB_t, notB_f, leI_t, leI_f, ltI_t, ltI_f, eqI_t, eqI_f, leN_t, leN_f, eqN_t, eqN_f, eqS_t, eqS_f, eqB_t, eqB_f, catOk_t, leC_t, lenS] at g; omega
      rw [if_pos g] at hK
      rw [need_iff]; refine ⟨rfl, ?_⟩
      rw [need_iff]; refine ⟨by simp only [br_iff, need_iff, andB_t, andB_f, orB_t, orB_f, notB_t, notB_f, leI_t, leI_f, ltI_t, ltI_f, eqI_t, eqI_f, leN_t, leN_f, eqN_t, eqN_f, eqS_t, eqS_f, eqB_t, eqB_f, catOk_t, leC_t]; omega, ?_⟩
      rw [need_iff]; refine ⟨by simp only [br_iff, need_iff, andB_t, andB_f, orB_t, orB_f, notB_t, notB_f, leI_t, leI_f, ltI_t, ltI_f, eqI_t, eqI_f, leN_t, leN_f, eqN_t, eqN_f, eqS_t, eqS_f, eqB_t, eqB_f, catOk_t, leC_t, lenS]; omega, ?_⟩
      rw [g]
      have e1 : cutS f 0 (f.length : Int) = f := by simp [cutS]
      have e2 : List.take (l.length + 1 - 1) (List.drop 1 (strV (f :: l))) = strV l := by
        show List.take (l.length + 1 - 1) (strV l) = _
        rw [Nat.add_sub_cancel]; exact strV_all l
      rw [e1, e2]
      exact hK
    · have g : ¬ readN c f = f.length := by simp only [br_iff, need_iff, andB_t, andB_f, orB_t, orB_f, notB_t, notB_f, leI_t, leI_f, ltI_t, ltI_f, eqI_t, eqI_f, leN_t, leN_f, eqN_t, eqN_f, eqS_t, eqS_f, eqB_t, eqB_f, catOk_t, leC_t, lenS] at g; omega
      rw [if_neg g] at hK
      rw [need_iff]; refine ⟨by simp only [br_iff, need_iff, andB_t, andB_f, orB_t, orB_f, notB_t, notB_f, leI_t, leI_f, ltI_t, ltI_f, eqI_t, eqI_f, leN_t, leN_f, eqN_t, eqN_f, eqS_t, eqS_f, eqB_t, eqB_f, catOk_t, leC_t, lenS]; omega, ?_⟩
      rw [need_iff]; refine ⟨by simp only [br_iff, need_iff, andB_t, andB_f, orB_t, orB_f, notB_t, notB_f, leI_t, leI_f, ltI_t, ltI_f, eqI_t, eqI_f, leN_t, leN_f, eqN_t, eqN_f, eqS_t, eqS_f, eqB_t, eqB_f, catOk_t, leC_t]; omega, ?_⟩
      rw [need_iff]; refine ⟨rfl, _, rfl, ?_⟩
      rw [need_iff]; refine ⟨by simp only [br_iff, need_iff, andB_t, andB_f, orB_t, orB_f, notB_t, notB_f, leI_t, leI_f, ltI_t, ltI_f, eqI_t, eqI_f, leN_t, leN_f, eqN_t, eqN_f, eqS_t, eqS_f, eqB_t, eqB_f, catOk_t, leC_t, lenS]; omega, ?_⟩
      have e1 : cutS f 0 (readN c f : Int) = f.take (readN c f) := by simp [cutS]
      have e2 : cutS f (readN c f : Int) (lenS f) = f.drop (readN c f) := by
        simp only [cutS, lenS, Int.toNat_natCast]
        exact List.take_of_length_le (by simp)
      rw [e1, e2]
      have e3 : List.take (l.length + 1) ((strV (f :: l)).set 0 [.str (f.drop (readN c f))]) = strV (f.drop (readN c f) :: l) := List.take_of_length_le (by simp [strV])
      have hK' : K (.tup [.agg [.bool r, .str t, .lst (strV (f.drop (readN c f) :: l))], .str (f.take (readN c f)), .bool false]) [] := hK
      rw [← e3] at hK'
      exact hK'
  · exact h.elim
end Go.Proofs.YtdbbpibfejchfaaGreatDoor
namespace Go.Proofs.YtdbbpibfejchfaaGreatDoor
open Go.RowKit
set_option maxRecDepth 100000
set_option linter.unusedVariables false
set_option linter.unusedSimpArgs false
structure wdC where
  t : List UInt8
structure wdX where
  n : Int
def wdSt (c : wdC) (x : wdX) : St := ⟨[(0, .str c.t), (3, .int .i64 x.n)], []⟩
set_option maxHeartbeats 4000000 in
def wdUn (s : St) : Option (wdC × wdX) :=
  match s with
  | ⟨[(q0, .str t), (q1, .int .i64 n)], []⟩ => bif Nat.beq q0 0 && Nat.beq q1 3 then some (⟨t⟩, ⟨n⟩) else none
  | _ => none
set_option maxHeartbeats 4000000 in
def wdL (inv : wdC → wdX → wdX → Nat → Prop) : LoopS where
  C := wdC
  X := wdX
  st := wdSt
  un := wdUn
  ok := by
    intro s c x h
    unfold wdUn at h
    split at h
    · simp only [Bool.cond_eq_ite] at h
      split at h
      · rename_i hg
        simp only [Bool.and_eq_true, Nat.beq_eq] at hg
        obtain ⟨rfl, rfl⟩ := hg
        cases h
        rfl
      · cases h
    · cases h
  inv := inv

structure reC where
  cnt : Int
  r : Bool
  t : List UInt8
  xs : List (List V)
structure reX where
  e : List UInt8
  i : Int
def reSt (c : reC) (x : reX) : St := ⟨[(1, .int .i64 c.cnt), (2, .ptr 0 0 0), (4, .ptr 1 0 0), (6, .str x.e), (7, .int .i64 x.i)], [(0, ⟨true, true, true, [[.bool c.r, .str c.t, .lst c.xs]], 0⟩), (1, ⟨true, true, true, [[.bool false, .str [], .nils]], 0⟩)]⟩
set_option maxHeartbeats 4000000 in
def reUn (s : St) : Option (reC × reX) :=
  match s with
  | ⟨[(q0, .int .i64 cnt), (q1, .ptr q2 q3 q4), (q5, .ptr q6 q7 q8), (q9, .str e), (q10, .int .i64 i)], [(q11, ⟨true, true, true, [[.bool r, .str t, .lst xs]], q12⟩), (q13, ⟨true, true, true, [[.bool false, .str [], .nils]], q14⟩)]⟩ => bif Nat.beq q0 1 && Nat.beq q1 2 && Nat.beq q2 0 && Nat.beq q3 0 && Nat.beq q4 0 && Nat.beq q5 4 && Nat.beq q6 1 && Nat.beq q7 0 && Nat.beq q8 0 && Nat.beq q9 6 && Nat.beq q10 7 && Nat.beq q11 0 && Nat.beq q12 0 && Nat.beq q13 1 && Nat.beq q14 0 then some (⟨cnt, r, t, xs⟩, ⟨e, i⟩) else none
  | _ => none
set_option maxHeartbeats 4000000 in
def reL (inv : reC → reX → reX → Nat → Prop) : LoopS where
  C := reC
  X := reX
  st := reSt
  un := reUn
  ok := by
    intro s c x h
    unfold reUn at h
    split at h
    · simp only [Bool.cond_eq_ite] at h
      split at h
      · rename_i hg
        simp only [Bool.and_eq_true, Nat.beq_eq] at hg
        obtain ⟨⟨⟨⟨⟨⟨⟨⟨⟨⟨⟨⟨⟨⟨rfl, rfl⟩, rfl⟩, rfl⟩, rfl⟩, rfl⟩, rfl⟩, rfl⟩, rfl⟩, rfl⟩, rfl⟩, rfl⟩, rfl⟩, rfl⟩, rfl⟩ := hg
        cases h
        rfl
      · cases h
    · cases h
  inv := inv

structure rfdC where
  s : List UInt8
structure rfdX where
  r : Bool
  t : List UInt8
  xs : List (List V)
  e : List UInt8
  i : Int
def rfdSt (c : rfdC) (x : rfdX) : St := ⟨[(1, .str c.s), (2, .ptr 0 0 0), (4, .ptr 1 0 0), (6, .str x.e), (7, .int .i64 x.i)], [(0, ⟨true, true, true, [[.bool x.r, .str x.t, .lst x.xs]], 0⟩), (1, ⟨true, true, true, [[.bool false, .str [], .nils]], 0⟩)]⟩
set_option maxHeartbeats 4000000 in
def rfdUn (s : St) : Option (rfdC × rfdX) :=
  match s with
  | ⟨[(q0, .str s), (q1, .ptr q2 q3 q4), (q5, .ptr q6 q7 q8), (q9, .str e), (q10, .int .i64 i)], [(q11, ⟨true, true, true, [[.bool r, .str t, .lst xs]], q12⟩), (q13, ⟨true, true, true, [[.bool false, .str [], .nils]], q14⟩)]⟩ => bif Nat.beq q0 1 && Nat.beq q1 2 && Nat.beq q2 0 && Nat.beq q3 0 && Nat.beq q4 0 && Nat.beq q5 4 && Nat.beq q6 1 && Nat.beq q7 0 && Nat.beq q8 0 && Nat.beq q9 6 && Nat.beq q10 7 && Nat.beq q11 0 && Nat.beq q12 0 && Nat.beq q13 1 && Nat.beq q14 0 then some (⟨s⟩, ⟨r, t, xs, e, i⟩) else none
  | _ => none
set_option maxHeartbeats 4000000 in
def rfdL (inv : rfdC → rfdX → rfdX → Nat → Prop) : LoopS where
  C := rfdC
  X := rfdX
  st := rfdSt
  un := rfdUn
  ok := by
    intro s c x h
    unfold rfdUn at h
    split at h
    · simp only [Bool.cond_eq_ite] at h
      split at h
      · rename_i hg
        simp only [Bool.and_eq_true, Nat.beq_eq] at hg
        obtain ⟨⟨⟨⟨⟨⟨⟨⟨⟨⟨⟨⟨⟨⟨rfl, rfl⟩, rfl⟩, rfl⟩, rfl⟩, rfl⟩, rfl⟩, rfl⟩, rfl⟩, rfl⟩, rfl⟩, rfl⟩, rfl⟩, rfl⟩, rfl⟩ := hg
        cases h
        rfl
      · cases h
    · cases h
  inv := inv

def wd_vc_1 (t : List UInt8) (I J : wdC → wdX → wdX → Nat → Prop) (K : V → List Bk → Prop) (x4 : (wdL I).X) : Prop :=
  (
        (∃ m6 : Nat, (((m6 : Nat) < 18446744073709551616)) ∧ (
        J (wdC.mk t) (wdX.mk x4.1) (wdX.mk x4.1) m6)) ∧ (
        ∀ x6 : (wdL J).X, ∀ m7 : Nat, (J (wdC.mk t) (wdX.mk x4.1) x6 m7) → (
        br (ltI x6.1 (lenS t)) (
          need (andB (leI 0 (subI IntKind.i64 (subI IntKind.i64 (lenS t) 1) x6.1)) (ltI (subI IntKind.i64 (subI IntKind.i64 (lenS t) 1) x6.1) (lenS t))) (
          br (notB (eqI (atS t (subI IntKind.i64 (subI IntKind.i64 (lenS t) 1) x6.1)) 32)) (
            need (andB (leI 0 (subI IntKind.i64 (subI IntKind.i64 (lenS t) 1) x6.1)) (ltI (subI IntKind.i64 (subI IntKind.i64 (lenS t) 1) x6.1) (lenS t))) (
            br (notB (eqI (atS t (subI IntKind.i64 (subI IntKind.i64 (lenS t) 1) x6.1)) 9)) (
              ((wdC.mk t : (wdL J).C) = wdC.mk t) ∧ (
              ∃ m'8 : Nat, (((m'8 : Nat) < m7)) ∧ (
              J (wdC.mk t) (wdX.mk x4.1) (wdX.mk (addI IntKind.i64 x6.1 1)) m'8))) (
              K (V.int IntKind.i64 x6.1) []))) (
            K (V.int IntKind.i64 x6.1) []))) (
          K (V.int IntKind.i64 x6.1) []))))
theorem wd_vc (t : List UInt8) (I J : wdC → wdX → wdX → Nat → Prop) (K : V → List Bk → Prop) : vcF Tryz.prog cfgN (ctOf []) (lpOf [(2, wdL I), (4, wdL J)]) 98 [.str t] [] K = (
  (∃ m4 : Nat, (((m4 : Nat) < 18446744073709551616)) ∧ (
  I (wdC.mk t) (wdX.mk 0) (wdX.mk 0) m4)) ∧ (
  ∀ x4 : (wdL I).X, ∀ m5 : Nat, (I (wdC.mk t) (wdX.mk 0) x4 m5) → (
  br (ltI x4.1 (lenS t)) (
    need (andB (leI 0 (subI IntKind.i64 (subI IntKind.i64 (lenS t) 1) x4.1)) (ltI (subI IntKind.i64 (subI IntKind.i64 (lenS t) 1) x4.1) (lenS t))) (
    br (eqI (atS t (subI IntKind.i64 (subI IntKind.i64 (lenS t) 1) x4.1)) 32) (
      ((wdC.mk t : (wdL I).C) = wdC.mk t) ∧ (
      ∃ m'6 : Nat, (((m'6 : Nat) < m5)) ∧ (
      I (wdC.mk t) (wdX.mk 0) (wdX.mk (addI IntKind.i64 x4.1 1)) m'6))) (
      need (andB (leI 0 (subI IntKind.i64 (subI IntKind.i64 (lenS t) 1) x4.1)) (ltI (subI IntKind.i64 (subI IntKind.i64 (lenS t) 1) x4.1) (lenS t))) (
      br (eqI (atS t (subI IntKind.i64 (subI IntKind.i64 (lenS t) 1) x4.1)) 9) (
        ((wdC.mk t : (wdL I).C) = wdC.mk t) ∧ (
        ∃ m'6 : Nat, (((m'6 : Nat) < m5)) ∧ (
        I (wdC.mk t) (wdX.mk 0) (wdX.mk (addI IntKind.i64 x4.1 1)) m'6))) (wd_vc_1 t I J K x4))))) (wd_vc_1 t I J K x4)))) := by kernel_rfl

theorem rdl_vc (r : Bool) (t : List UInt8) (xs : List (List V)) (s : List UInt8) (K : V → List Bk → Prop) : vcF Tryz.prog cfgN (ctOf []) (lpOf []) 96 [.agg [.bool r, .str t, .lst xs], .str s] [] K = (
  br (leI 1024 (lenL xs)) (
    K (V.tup [V.agg [V.bool r, V.str t, V.lst xs], V.bool false]) []) (
    need (headOkP 1 xs) (
    need (leN (xs.length * 16) 140737488355328) (
    need (headOkP 1 xs) (
    br (leN (xs.length + 1) xs.length) (
      K (V.tup [V.agg [V.bool r, V.str [], V.lst (List.take (xs.length + 1) (List.drop 0 (List.take (0 + xs.length) xs ++ [[V.str s]] ++ List.drop (0 + xs.length + 1) xs)))], V.bool true]) []) (
      need (eqN (0 + xs.length) xs.length) (
      need (leN ((xs.length + 1) * 16) 140737488355328) (
      K (V.tup [V.agg [V.bool r, V.str [], V.lst (List.take (xs.length + 1) (List.drop 0 (List.drop 0 xs ++ [[V.str s]])))], V.bool true]) [])))))))) := by kernel_rfl

theorem re_vc (r : Bool) (t : List UInt8) (xs : List (List V)) (n : Int) (I : reC → reX → reX → Nat → Prop) (K : V → List Bk → Prop) : vcF Tryz.prog cfgN (ctOf []) (lpOf [(4, reL I)]) 97 [.agg [.bool r, .str t, .lst xs], .int .i64 n] [] K = (
  need (andB (leI 0 (subI IntKind.i64 (lenS t) n)) (leI (subI IntKind.i64 (lenS t) n) (lenS t))) (
  (∃ m6 : Nat, (((m6 : Nat) < 18446744073709551616)) ∧ (
  I (reC.mk n r (cutS t 0 (subI IntKind.i64 (lenS t) n)) xs) (reX.mk [] 0) (reX.mk [] 0) m6)) ∧ (
  ∀ x6 : (reL I).X, ∀ m7 : Nat, (I (reC.mk n r (cutS t 0 (subI IntKind.i64 (lenS t) n)) xs) (reX.mk [] 0) x6 m7) → (
  br (ltI x6.2 n) (
    need (catOk x6.1 [8, 32, 8]) (
    ((reC.mk n r (cutS t 0 (subI IntKind.i64 (lenS t) n)) xs : (reL I).C) = reC.mk n r (cutS t 0 (subI IntKind.i64 (lenS t) n)) xs) ∧ (
    ∃ m'8 : Nat, (((m'8 : Nat) < m7)) ∧ (
    I (reC.mk n r (cutS t 0 (subI IntKind.i64 (lenS t) n)) xs) (reX.mk [] 0) (reX.mk (catS x6.1 [8, 32, 8]) (addI IntKind.i64 x6.2 1)) m'8)))) (
    K (V.tup [V.agg [V.bool r, V.str (cutS t 0 (subI IntKind.i64 (lenS t) n)), V.lst xs], V.str x6.1]) []))))) := by kernel_rfl

def rty_vc_1 (r : Bool) (t : List UInt8) (xs : List (List V)) (c : Int) (K : V → List Bk → Prop) : Prop :=
  (
                need (catOk t [10]) (
                ∃ l5 : List (List UInt8), ((xs : List (List V)) = strV l5) ∧ (
                (((l5.length : Nat) ≤ 100000)) ∧ (
                br (ltI (Int.ofNat l5.length) 1024) (
                  K (V.tup [V.agg [V.bool r, V.str [], V.lst (strV (l5 ++ [catS t [10]]))], V.str [10]]) []) (
                  K (V.tup [V.agg [V.bool r, V.str t, V.lst xs], V.str []]) [])))))
def rty_vc_2 (r : Bool) (t : List UInt8) (xs : List (List V)) (c : Int) (K : V → List Bk → Prop) : Prop :=
  (
        (((t.length : Nat) ≤ 100000)) ∧ (
        (((0 : Int) ≤ minI 1 (lenS t))) ∧ (
        (((minI 1 (lenS t) : Int) ≤ Int.ofNat t.length)) ∧ (
        K (V.tup [V.agg [V.bool r, V.str (List.take (t.length - (minI 1 (lenS t)).toNat) t), V.lst xs], V.str (rub (minI 1 (lenS t)).toNat)]) []))))
theorem rty_vc (r : Bool) (t : List UInt8) (xs : List (List V)) (c : Int) (K : V → List Bk → Prop) : vcF Tryz.prog cfgN (ctOf [(31, prCon), (96, rdelivCon), (97, reraseCon), (98, wordCon)]) (lpOf []) 79 [.agg [.bool r, .str t, .lst xs], .int .u8 c] [] K = (
  br (r) (
    ∃ l5 : List (List UInt8), ((xs : List (List V)) = strV l5) ∧ (
    (((l5.length : Nat) ≤ 100000)) ∧ (
    br (ltI (Int.ofNat l5.length) 1024) (
      K (V.tup [V.agg [V.bool r, V.str [], V.lst (strV (l5 ++ [[UInt8.ofNat c.toNat]]))], V.str []]) []) (
      K (V.tup [V.agg [V.bool r, V.str t, V.lst (strV l5)], V.str []]) [])))) (
    br (prB c) (
      br (ltI (lenS t) 1024) (
        need (catOk t [UInt8.ofNat c.toNat]) (
        K (V.tup [V.agg [V.bool r, V.str (catS t [UInt8.ofNat c.toNat]), V.lst xs], V.str [UInt8.ofNat c.toNat]]) [])) (
        K (V.tup [V.agg [V.bool r, V.str t, V.lst xs], V.str []]) [])) (
      br (eqI c 8) (rty_vc_2 r t xs c K) (
        br (eqI c 127) (rty_vc_2 r t xs c K) (
          br (eqI c 21) (
            (((t.length : Nat) ≤ 100000)) ∧ (
            (((0 : Int) ≤ lenS t)) ∧ (
            (((lenS t : Int) ≤ Int.ofNat t.length)) ∧ (
            K (V.tup [V.agg [V.bool r, V.str (List.take (t.length - (lenS t).toNat) t), V.lst xs], V.str (rub (lenS t).toNat)]) [])))) (
            br (eqI c 23) (
              (((t.length : Nat) ≤ 100000)) ∧ (
              (((t.length : Nat) ≤ 100000)) ∧ (
              (((0 : Int) ≤ Int.ofNat (wordN t))) ∧ (
              (((Int.ofNat (wordN t) : Int) ≤ Int.ofNat t.length)) ∧ (
              K (V.tup [V.agg [V.bool r, V.str (List.take (t.length - (Int.ofNat (wordN t)).toNat) t), V.lst xs], V.str (rub (Int.ofNat (wordN t)).toNat)]) []))))) (
              br (eqI c 10) (rty_vc_1 r t xs c K) (
                br (eqI c 13) (rty_vc_1 r t xs c K) (
                  br (eqI c 4) (
                    ∃ l5 : List (List UInt8), ((xs : List (List V)) = strV l5) ∧ (
                    (((l5.length : Nat) ≤ 100000)) ∧ (
                    br (ltI (Int.ofNat l5.length) 1024) (
                      K (V.tup [V.agg [V.bool r, V.str [], V.lst (strV (l5 ++ [t]))], V.str []]) []) (
                      K (V.tup [V.agg [V.bool r, V.str t, V.lst (strV l5)], V.str []]) [])))) (
                    K (V.tup [V.agg [V.bool r, V.str t, V.lst xs], V.str []]) [])))))))))) := by kernel_rfl

theorem rfd_vc (r : Bool) (t : List UInt8) (xs : List (List V)) (s : List UInt8) (I : rfdC → rfdX → rfdX → Nat → Prop) (K : V → List Bk → Prop) : vcF Tryz.prog cfgN (ctOf [(79, typeCon)]) (lpOf [(3, rfdL I)]) 48 [.agg [.bool r, .str t, .lst xs], .str s] [] K = (
  (∃ m6 : Nat, (((m6 : Nat) < 18446744073709551616)) ∧ (
  I (rfdC.mk s) (rfdX.mk r t xs [] 0) (rfdX.mk r t xs [] 0) m6)) ∧ (
  ∀ x6 : (rfdL I).X, ∀ m7 : Nat, (I (rfdC.mk s) (rfdX.mk r t xs [] 0) x6 m7) → (
  br (ltI x6.5 (lenS s)) (
    need (andB (leI 0 x6.5) (ltI x6.5 (lenS s))) (
    ∃ l8 : List (List UInt8), ((x6.3 : List (List V)) = strV l8) ∧ (
    ((rightL (Line.mk x6.1 x6.2 l8) : Bool) = true) ∧ (
    (((0 : Int) ≤ atS s x6.5)) ∧ (
    (((atS s x6.5 : Int) ≤ 255)) ∧ (
    need (catOk x6.4 (typeF (Line.mk x6.r x6.t l8) (atS (rfdC.mk s).s x6.i)).2) (
    ((rfdC.mk s : (rfdL I).C) = rfdC.mk s) ∧ (
    ∃ m'9 : Nat, (((m'9 : Nat) < m7)) ∧ (
    I (rfdC.mk s) (rfdX.mk r t xs [] 0) (rfdX.mk (typeF (Line.mk x6.r x6.t l8) (atS (rfdC.mk s).s x6.i)).fst.1 (typeF (Line.mk x6.r x6.t l8) (atS (rfdC.mk s).s x6.i)).fst.2 (strV (typeF (Line.mk x6.r x6.t l8) (atS (rfdC.mk s).s x6.i)).fst.3) (catS x6.4 (typeF (Line.mk x6.r x6.t l8) (atS (rfdC.mk s).s x6.i)).2) (addI IntKind.i64 x6.5 1)) m'9))))))))) (
    K (V.tup [V.agg [V.bool x6.1, V.str x6.2, V.lst x6.3], V.str x6.4]) [])))) := by kernel_rfl

end Go.Proofs.YtdbbpibfejchfaaGreatDoor
namespace Go.Proofs.YtdbbpibfejchfaaGreatDoor
open Go.RowKit
set_option maxRecDepth 100000
set_option linter.unusedVariables false
set_option linter.unusedSimpArgs false
theorem atS_rev {t : List UInt8} {j : Nat} (h : j < t.length) (hb : t.length ≤ 100000) : subI .i64 (subI .i64 (lenS t) 1) (j : Int) = ((t.length - (j + 1) : Nat) : Int) := by
  rw [subI_i64 (a := lenS t) (by unfold lenS; omega) (by unfold lenS; omega), subI_i64 (by unfold lenS; omega) (by unfold lenS; omega)]
  unfold lenS; omega
theorem scanB_step {p : Int → Bool} {t : List UInt8} {j : Nat} (h : j < t.length) : scanB p t (t.length - j) = if p (atS t ((t.length - (j + 1) : Nat) : Int)) = true then scanB p t (t.length - (j + 1)) else t.length - j := by
  rw [show t.length - j = (t.length - (j + 1)) + 1 by omega, scanB]
  rfl
theorem bl_eq (c : Int) : blB c = (eqI c 9 || eqI c 32) := rfl
theorem wd_con {n : Nat} (hn : 1 ≤ n) : ConOk (evalF Tryz.prog cfgN n) 98 wordCon := by
  intro vs bs K h
  unfold wordCon at h
  split at h
  · rename_i t
    obtain ⟨hb, hK⟩ := h
    refine run_of (lp := lpOf [(2, wdL fun _ _ x m => ∃ j : Nat, x = ⟨(j : Int)⟩ ∧ j + m = t.length ∧ scanB blB t t.length = scanB blB t (t.length - j)), (4, wdL fun _ _ x m => ∃ j : Nat, x = ⟨(j : Int)⟩ ∧ j + m = t.length ∧ scanB nbl t (scanB blB t t.length) = scanB nbl t (t.length - j))]) (by omega) (fun k hk => noCt_ok _) ?_
    rw [wd_vc]
    have main : ∀ j : Nat, j ≤ t.length → scanB blB t t.length = t.length - j → wd_vc_1 t (fun _ _ x m => ∃ j : Nat, x = ⟨(j : Int)⟩ ∧ j + m = t.length ∧ scanB blB t t.length = scanB blB t (t.length - j)) (fun _ _ x m => ∃ j : Nat, x = ⟨(j : Int)⟩ ∧ j + m = t.length ∧ scanB nbl t (scanB blB t t.length) = scanB nbl t (t.length - j)) K ⟨(j : Int)⟩ := by
      intro j hj he
      unfold wd_vc_1
      refine ⟨⟨t.length - j, by omega, j, rfl, by omega, by rw [he]⟩, ?_⟩
      rintro _ m ⟨i, rfl, hi, hp⟩
      dsimp only
      have fin : scanB nbl t (t.length - i) = t.length - i → K (.int .i64 (i : Int)) [] := by
        intro e
        have : wordN t = i := by unfold wordN; rw [hp, e]; omega
        rw [this] at hK; exact hK
      rw [br_iff]
      refine ⟨fun q => ?_, fun q => fin (by simp only [br_iff, need_iff, andB_t, andB_f, orB_t, orB_f, notB_t, notB_f, leI_t, leI_f, ltI_t, ltI_f, eqI_t, eqI_f, leN_t, leN_f, eqN_t, eqN_f, eqS_t, eqS_f, eqB_t, eqB_f, catOk_t, leC_t, lenS] at q; rw [show t.length - i = 0 by omega]; rfl)⟩
      have hlt : i < t.length := by simp only [br_iff, need_iff, andB_t, andB_f, orB_t, orB_f, notB_t, notB_f, leI_t, leI_f, ltI_t, ltI_f, eqI_t, eqI_f, leN_t, leN_f, eqN_t, eqN_f, eqS_t, eqS_f, eqB_t, eqB_f, catOk_t, leC_t, lenS] at q; omega
      have hs := scanB_step (p := nbl) hlt
      rw [atS_rev hlt hb]
      generalize hc : atS t ((t.length - (i + 1) : Nat) : Int) = c at hs ⊢
      have hn : need (andB (leI 0 ((t.length - (i + 1) : Nat) : Int)) (ltI ((t.length - (i + 1) : Nat) : Int) (lenS t))) = fun A => A := by
        funext A
        have : andB (leI 0 ((t.length - (i + 1) : Nat) : Int)) (ltI ((t.length - (i + 1) : Nat) : Int) (lenS t)) = true := by simp only [br_iff, need_iff, andB_t, andB_f, orB_t, orB_f, notB_t, notB_f, leI_t, leI_f, ltI_t, ltI_f, eqI_t, eqI_f, leN_t, leN_f, eqN_t, eqN_f, eqS_t, eqS_f, eqB_t, eqB_f, catOk_t, leC_t, lenS]; omega
        rw [this]; rfl
      rw [hn]
      rw [br_iff]
      refine ⟨fun w => ?_, fun w => fin ?_⟩
      · rw [br_iff]
        refine ⟨fun w2 => ⟨by trivial, m - 1, by omega, i + 1, by rw [addI_i64 (by omega) (by omega)]; rfl, by omega, ?_⟩, fun w2 => fin ?_⟩
        · rw [hp, hs, if_pos]
          simp only [notB, Bool.not_eq_true'] at w w2
          simp only [nbl, bl_eq, w, w2]; rfl
        · rw [hs, if_neg]
          simp only [notB, Bool.not_eq_false'] at w2
          simp only [nbl, bl_eq, w2]; simp
      · rw [hs, if_neg]
        simp only [notB, Bool.not_eq_false'] at w
        simp only [nbl, bl_eq, w]; simp
    refine ⟨⟨t.length, by omega, 0, rfl, by omega, rfl⟩, ?_⟩
    rintro _ m ⟨i, rfl, hi, hp⟩
    dsimp only
    rw [br_iff]
    refine ⟨fun q => ?_, fun q => main i (by omega) (by simp only [br_iff, need_iff, andB_t, andB_f, orB_t, orB_f, notB_t, notB_f, leI_t, leI_f, ltI_t, ltI_f, eqI_t, eqI_f, leN_t, leN_f, eqN_t, eqN_f, eqS_t, eqS_f, eqB_t, eqB_f, catOk_t, leC_t, lenS] at q; rw [hp, show t.length - i = 0 by omega]; rfl)⟩
    have hlt : i < t.length := by simp only [br_iff, need_iff, andB_t, andB_f, orB_t, orB_f, notB_t, notB_f, leI_t, leI_f, ltI_t, ltI_f, eqI_t, eqI_f, leN_t, leN_f, eqN_t, eqN_f, eqS_t, eqS_f, eqB_t, eqB_f, catOk_t, leC_t, lenS] at q; omega
    have hs := scanB_step (p := blB) hlt
    rw [atS_rev hlt hb]
    generalize hc : atS t ((t.length - (i + 1) : Nat) : Int) = c at hs ⊢
    have hn : need (andB (leI 0 ((t.length - (i + 1) : Nat) : Int)) (ltI ((t.length - (i + 1) : Nat) : Int) (lenS t))) = fun A => A := by
      funext A
      have : andB (leI 0 ((t.length - (i + 1) : Nat) : Int)) (ltI ((t.length - (i + 1) : Nat) : Int) (lenS t)) = true := by simp only [br_iff, need_iff, andB_t, andB_f, orB_t, orB_f, notB_t, notB_f, leI_t, leI_f, ltI_t, ltI_f, eqI_t, eqI_f, leN_t, leN_f, eqN_t, eqN_f, eqS_t, eqS_f, eqB_t, eqB_f, catOk_t, leC_t, lenS]; omega
      rw [this]; rfl
    rw [hn]
    rw [br_iff]
    refine ⟨fun w => ⟨by trivial, m - 1, by omega, i + 1, by rw [addI_i64 (by omega) (by omega)]; rfl, by omega, ?_⟩, fun w => ?_⟩
    · rw [hp, hs, if_pos]
      simp only [bl_eq, w]; simp
    · rw [br_iff]
      refine ⟨fun w2 => ⟨by trivial, m - 1, by omega, i + 1, by rw [addI_i64 (by omega) (by omega)]; rfl, by omega, ?_⟩, fun w2 => main i (by omega) ?_⟩
      · rw [hp, hs, if_pos]
        simp only [bl_eq, w2]; simp
      · rw [hp, hs, if_neg]
        simp only [bl_eq, w, w2]; simp
  · exact h.elim
theorem rdl_con {n : Nat} (hn : 1 ≤ n) : ConOk (evalF Tryz.prog cfgN n) 96 rdelivCon := by
  intro vs bs K h
  unfold rdelivCon at h
  split at h
  · rename_i r t xs s
    obtain ⟨l, rfl, h1, hK⟩ := h
    refine run_of (lp := lpOf []) hn (fun k _ => noCt_ok _) ?_
    rw [rdl_vc]
    simp only [strV_lenL, strV_len]
    rw [br_iff] at hK ⊢
    refine ⟨fun g => hK.2 (by simp only [br_iff, need_iff, andB_t, andB_f, orB_t, orB_f, notB_t, notB_f, leI_t, leI_f, ltI_t, ltI_f, eqI_t, eqI_f, leN_t, leN_f, eqN_t, eqN_f, eqS_t, eqS_f, eqB_t, eqB_f, catOk_t, leC_t, Int.ofNat_eq_natCast] at g ⊢; exact g), fun g => ?_⟩
    have hK := hK.1 (by simp only [br_iff, need_iff, andB_t, andB_f, orB_t, orB_f, notB_t, notB_f, leI_t, leI_f, ltI_t, ltI_f, eqI_t, eqI_f, leN_t, leN_f, eqN_t, eqN_f, eqS_t, eqS_f, eqB_t, eqB_f, catOk_t, leC_t, Int.ofNat_eq_natCast] at g ⊢; exact g)
    simp only [leN_succ, eqN_self, leI_self, br_ff, br_tt, need_tt, andB_tt, List.drop_zero, List.nil_append, List.append_nil, Nat.zero_add, Nat.add_zero, Nat.sub_zero, List.take_length, Int.ofNat_eq_natCast, Int.toNat_natCast, Int.toNat_zero, strV_len, strV_one, strV_app]
    rw [need_iff]; refine ⟨strV_head _, ?_⟩
    rw [need_iff]; refine ⟨by simp only [br_iff, need_iff, andB_t, andB_f, orB_t, orB_f, notB_t, notB_f, leI_t, leI_f, ltI_t, ltI_f, eqI_t, eqI_f, leN_t, leN_f, eqN_t, eqN_f, eqS_t, eqS_f, eqB_t, eqB_f, catOk_t, leC_t]; omega, ?_⟩
    rw [need_iff]; refine ⟨strV_head _, ?_⟩
    rw [need_iff]; refine ⟨by simp only [br_iff, need_iff, andB_t, andB_f, orB_t, orB_f, notB_t, notB_f, leI_t, leI_f, ltI_t, ltI_f, eqI_t, eqI_f, leN_t, leN_f, eqN_t, eqN_f, eqS_t, eqS_f, eqB_t, eqB_f, catOk_t, leC_t]; omega, ?_⟩
    rw [show l.length + 1 = (l ++ [s]).length by simp, strV_all]
    exact hK
  · exact h.elim
theorem rub_succ (k : Nat) : rub k ++ [8, 32, 8] = rub (k + 1) := by
  unfold rub
  induction k with
  | zero => rfl
  | succ k ih => simp only [Lib.repeatL] at ih ⊢; rw [List.append_assoc, ih]
theorem rer_con {n : Nat} (hn : 1 ≤ n) : ConOk (evalF Tryz.prog cfgN n) 97 reraseCon := by
  intro vs bs K h
  unfold reraseCon at h
  split at h
  · rename_i r t xs c
    obtain ⟨hb, h0, h1, hK⟩ := h
    obtain ⟨c, rfl⟩ := Int.eq_ofNat_of_zero_le h0
    refine run_of (lp := lpOf [(4, reL fun _ _ x m => ∃ j : Nat, x = ⟨rub j, (j : Int)⟩ ∧ j + m = c)]) (by omega) (fun k hk => noCt_ok _) ?_
    rw [re_vc]
    have e1 : subI .i64 (lenS t) (c : Int) = ((t.length - c : Nat) : Int) := by
      rw [subI_i64 (by unfold lenS; omega) (by unfold lenS; omega)]
      unfold lenS; omega
    rw [e1, need_iff]; refine ⟨by simp only [br_iff, need_iff, andB_t, andB_f, orB_t, orB_f, notB_t, notB_f, leI_t, leI_f, ltI_t, ltI_f, eqI_t, eqI_f, leN_t, leN_f, eqN_t, eqN_f, eqS_t, eqS_f, eqB_t, eqB_f, catOk_t, leC_t, lenS]; omega, ⟨c, by omega, 0, rfl, by omega⟩, ?_⟩
    rintro _ m ⟨j, rfl, hj⟩
    dsimp only
    rw [br_iff]
    refine ⟨fun q => ?_, fun q => ?_⟩
    · have hlt : j < c := by simp only [br_iff, need_iff, andB_t, andB_f, orB_t, orB_f, notB_t, notB_f, leI_t, leI_f, ltI_t, ltI_f, eqI_t, eqI_f, leN_t, leN_f, eqN_t, eqN_f, eqS_t, eqS_f, eqB_t, eqB_f, catOk_t, leC_t] at q; omega
      have := rub_len j
      rw [need_iff]; refine ⟨by simp only [br_iff, need_iff, andB_t, andB_f, orB_t, orB_f, notB_t, notB_f, leI_t, leI_f, ltI_t, ltI_f, eqI_t, eqI_f, leN_t, leN_f, eqN_t, eqN_f, eqS_t, eqS_f, eqB_t, eqB_f, catOk_t, leC_t, List.length_cons, List.length_nil]; omega, by trivial, m - 1, by omega, j + 1, ?_, by omega⟩
      rw [addI_i64 (by omega) (by omega), ← rub_succ]; rfl
    · obtain rfl : j = c := by simp only [br_iff, need_iff, andB_t, andB_f, orB_t, orB_f, notB_t, notB_f, leI_t, leI_f, ltI_t, ltI_f, eqI_t, eqI_f, leN_t, leN_f, eqN_t, eqN_f, eqS_t, eqS_f, eqB_t, eqB_f, catOk_t, leC_t] at q; omega
      have e2 : cutS t 0 ((t.length - j : Nat) : Int) = t.take (t.length - j) := by simp [cutS]
      rw [e2]
      exact hK
  · exact h.elim
theorem rty_con {n : Nat} (hn : 2 ≤ n) : ConOk (evalF Tryz.prog cfgN n) 79 typeCon := by
  intro vs bs K h
  unfold typeCon at h
  split at h
  · rename_i r t xs c
    obtain ⟨l, rfl, hR, h0, h1, hK⟩ := h
    refine run_of (lp := lpOf []) (by omega) (ct := ctOf [(31, prCon), (96, rdelivCon), (97, reraseCon), (98, wordCon)])
      (fun k hk => ctOf_ok (ctOf_cons (rpr_con (by omega)) (ctOf_cons (rdl_con (by omega)) (ctOf_cons (rer_con (by omega)) (ctOf_cons (wd_con (by omega)) (ctOf_nil _)))))) ?_
    rw [rty_vc]
    obtain ⟨a1, a2, a3, a4, a5⟩ := (rightL_iff _).1 hR
    dsimp only at a1 a2 a3 a4 a5
    have f : ∀ {l' : Line} {e : List UInt8}, typeF ⟨r, t, l⟩ c = (l', e) → K (.tup [.agg [.bool l'.raw, .str l'.text, .lst (strV l'.ready)], .str e]) [] := fun h => by rw [h] at hK; exact hK
    clear hK
    rw [br_iff]
    refine ⟨fun hr => ?_, fun hr => ?_⟩
    · subst hr
      refine ⟨l, rfl, by omega, ?_⟩
      have ht := a2 rfl
      subst ht
      rw [br_iff]
      refine ⟨fun g => ?_, fun g => ?_⟩
      · exact f (l' := ⟨true, [], l ++ [byteL c]⟩) (e := []) (by unfold typeF; rw [if_pos rfl, if_pos (by simp only [br_iff, need_iff, andB_t, andB_f, orB_t, orB_f, notB_t, notB_f, leI_t, leI_f, ltI_t, ltI_f, eqI_t, eqI_f, leN_t, leN_f, eqN_t, eqN_f, eqS_t, eqS_f, eqB_t, eqB_f, catOk_t, leC_t, Int.ofNat_eq_natCast] at g; show l.length < 1024; omega)])
      · exact f (l' := ⟨true, [], l⟩) (e := []) (by unfold typeF; rw [if_pos rfl, if_neg (by simp only [br_iff, need_iff, andB_t, andB_f, orB_t, orB_f, notB_t, notB_f, leI_t, leI_f, ltI_t, ltI_f, eqI_t, eqI_f, leN_t, leN_f, eqN_t, eqN_f, eqS_t, eqS_f, eqB_t, eqB_f, catOk_t, leC_t, Int.ofNat_eq_natCast] at g; show ¬ l.length < 1024; omega)])
    subst hr
    have nl : c = 10 ∨ c = 13 → rty_vc_1 false t (strV l) c K := by
      intro hc
      unfold rty_vc_1
      rw [need_iff]; refine ⟨by simp only [br_iff, need_iff, andB_t, andB_f, orB_t, orB_f, notB_t, notB_f, leI_t, leI_f, ltI_t, ltI_f, eqI_t, eqI_f, leN_t, leN_f, eqN_t, eqN_f, eqS_t, eqS_f, eqB_t, eqB_f, catOk_t, leC_t, List.length_singleton]; omega, l, rfl, by omega, ?_⟩
      rw [br_iff]
      refine ⟨fun g => ?_, fun g => ?_⟩
      · exact f (l' := ⟨false, [], l ++ [t ++ [10]]⟩) (e := [10]) (by unfold typeF; rw [if_neg (by simp), if_neg (by omega), if_pos hc, if_pos (by simp only [br_iff, need_iff, andB_t, andB_f, orB_t, orB_f, notB_t, notB_f, leI_t, leI_f, ltI_t, ltI_f, eqI_t, eqI_f, leN_t, leN_f, eqN_t, eqN_f, eqS_t, eqS_f, eqB_t, eqB_f, catOk_t, leC_t, Int.ofNat_eq_natCast] at g; show l.length < 1024; omega)])
      · exact f (l' := ⟨false, t, l⟩) (e := []) (by unfold typeF; rw [if_neg (by simp), if_neg (by omega), if_pos hc, if_neg (by simp only [br_iff, need_iff, andB_t, andB_f, orB_t, orB_f, notB_t, notB_f, leI_t, leI_f, ltI_t, ltI_f, eqI_t, eqI_f, leN_t, leN_f, eqN_t, eqN_f, eqS_t, eqS_f, eqB_t, eqB_f, catOk_t, leC_t, Int.ofNat_eq_natCast] at g; show ¬ l.length < 1024; omega)])
    have er : c = 8 ∨ c = 127 ∨ c = 21 ∨ c = 23 → ∀ k, k = erasedN t c → K (.tup [.agg [.bool false, .str (t.take (t.length - k)), .lst (strV l)], .str (rub k)]) [] := by
      rintro hc k rfl
      exact f (l' := ⟨false, t.take (t.length - erasedN t c), l⟩) (e := rub (erasedN t c)) (by unfold typeF; rw [if_neg (by simp), if_pos hc]; rfl)
    have er1 : c = 8 ∨ c = 127 → rty_vc_2 false t (strV l) c K := by
      intro hc
      unfold rty_vc_2
      refine ⟨by omega, by unfold minI lenS; omega, by unfold minI lenS; simp; omega, ?_⟩
      exact er (by omega) _ (by unfold erasedN minI lenS; rw [if_neg (by omega), if_neg (by omega)]; omega)
    rw [br_iff]; refine ⟨fun gp => ?_, fun gp => ?_⟩
    · have hp : ¬ (c = 8 ∨ c = 127 ∨ c = 21 ∨ c = 23) ∧ ¬ (c = 10 ∨ c = 13) ∧ ¬ c = 4 := by
        simp [prB] at gp; omega
      rw [br_iff]; refine ⟨fun g => ?_, fun g => ?_⟩
      · rw [need_iff]; refine ⟨by simp only [br_iff, need_iff, andB_t, andB_f, orB_t, orB_f, notB_t, notB_f, leI_t, leI_f, ltI_t, ltI_f, eqI_t, eqI_f, leN_t, leN_f, eqN_t, eqN_f, eqS_t, eqS_f, eqB_t, eqB_f, catOk_t, leC_t, List.length_singleton]; omega, ?_⟩
        exact f (l' := ⟨false, t ++ byteL c, l⟩) (e := byteL c) (by unfold typeF; rw [if_neg (by simp), if_neg hp.1, if_neg hp.2.1, if_neg hp.2.2, if_pos gp, if_pos (by simp only [br_iff, need_iff, andB_t, andB_f, orB_t, orB_f, notB_t, notB_f, leI_t, leI_f, ltI_t, ltI_f, eqI_t, eqI_f, leN_t, leN_f, eqN_t, eqN_f, eqS_t, eqS_f, eqB_t, eqB_f, catOk_t, leC_t, lenS] at g; simp only; omega)])
      · exact f (l' := ⟨false, t, l⟩) (e := []) (by unfold typeF; rw [if_neg (by simp), if_neg hp.1, if_neg hp.2.1, if_neg hp.2.2, if_pos gp, if_neg (by simp only [br_iff, need_iff, andB_t, andB_f, orB_t, orB_f, notB_t, notB_f, leI_t, leI_f, ltI_t, ltI_f, eqI_t, eqI_f, leN_t, leN_f, eqN_t, eqN_f, eqS_t, eqS_f, eqB_t, eqB_f, catOk_t, leC_t, lenS] at g; simp only; omega)])
    rw [br_iff]; refine ⟨fun g => er1 (by simp only [br_iff, need_iff, andB_t, andB_f, orB_t, orB_f, notB_t, notB_f, leI_t, leI_f, ltI_t, ltI_f, eqI_t, eqI_f, leN_t, leN_f, eqN_t, eqN_f, eqS_t, eqS_f, eqB_t, eqB_f, catOk_t, leC_t] at g; omega), fun g8 => ?_⟩
    rw [br_iff]; refine ⟨fun g => er1 (by simp only [br_iff, need_iff, andB_t, andB_f, orB_t, orB_f, notB_t, notB_f, leI_t, leI_f, ltI_t, ltI_f, eqI_t, eqI_f, leN_t, leN_f, eqN_t, eqN_f, eqS_t, eqS_f, eqB_t, eqB_f, catOk_t, leC_t] at g; omega), fun g127 => ?_⟩
    simp only [br_iff, need_iff, andB_t, andB_f, orB_t, orB_f, notB_t, notB_f, leI_t, leI_f, ltI_t, ltI_f, eqI_t, eqI_f, leN_t, leN_f, eqN_t, eqN_f, eqS_t, eqS_f, eqB_t, eqB_f, catOk_t, leC_t] at g8 g127
    rw [br_iff]; refine ⟨fun g => ?_, fun g21 => ?_⟩
    · have hc : c = 21 := by simpa only [br_iff, need_iff, andB_t, andB_f, orB_t, orB_f, notB_t, notB_f, leI_t, leI_f, ltI_t, ltI_f, eqI_t, eqI_f, leN_t, leN_f, eqN_t, eqN_f, eqS_t, eqS_f, eqB_t, eqB_f, catOk_t, leC_t] using g
      refine ⟨by omega, by unfold lenS; omega, by unfold lenS; simp, ?_⟩
      exact er (by omega) _ (by unfold erasedN lenS; rw [if_pos hc]; simp)
    simp only [br_iff, need_iff, andB_t, andB_f, orB_t, orB_f, notB_t, notB_f, leI_t, leI_f, ltI_t, ltI_f, eqI_t, eqI_f, leN_t, leN_f, eqN_t, eqN_f, eqS_t, eqS_f, eqB_t, eqB_f, catOk_t, leC_t] at g21
    rw [br_iff]; refine ⟨fun g => ?_, fun g23 => ?_⟩
    · have hc : c = 23 := by simpa only [br_iff, need_iff, andB_t, andB_f, orB_t, orB_f, notB_t, notB_f, leI_t, leI_f, ltI_t, ltI_f, eqI_t, eqI_f, leN_t, leN_f, eqN_t, eqN_f, eqS_t, eqS_f, eqB_t, eqB_f, catOk_t, leC_t] using g
      have := wordN_le t
      refine ⟨by omega, by omega, by simp, by simp; omega, ?_⟩
      exact er (by omega) _ (by unfold erasedN; rw [if_neg g21, if_pos hc]; simp)
    simp only [br_iff, need_iff, andB_t, andB_f, orB_t, orB_f, notB_t, notB_f, leI_t, leI_f, ltI_t, ltI_f, eqI_t, eqI_f, leN_t, leN_f, eqN_t, eqN_f, eqS_t, eqS_f, eqB_t, eqB_f, catOk_t, leC_t] at g23
    rw [br_iff]; refine ⟨fun g => nl (by simp only [br_iff, need_iff, andB_t, andB_f, orB_t, orB_f, notB_t, notB_f, leI_t, leI_f, ltI_t, ltI_f, eqI_t, eqI_f, leN_t, leN_f, eqN_t, eqN_f, eqS_t, eqS_f, eqB_t, eqB_f, catOk_t, leC_t] at g; omega), fun g10 => ?_⟩
    rw [br_iff]; refine ⟨fun g => nl (by simp only [br_iff, need_iff, andB_t, andB_f, orB_t, orB_f, notB_t, notB_f, leI_t, leI_f, ltI_t, ltI_f, eqI_t, eqI_f, leN_t, leN_f, eqN_t, eqN_f, eqS_t, eqS_f, eqB_t, eqB_f, catOk_t, leC_t] at g; omega), fun g13 => ?_⟩
    simp only [br_iff, need_iff, andB_t, andB_f, orB_t, orB_f, notB_t, notB_f, leI_t, leI_f, ltI_t, ltI_f, eqI_t, eqI_f, leN_t, leN_f, eqN_t, eqN_f, eqS_t, eqS_f, eqB_t, eqB_f, catOk_t, leC_t] at g10 g13
    rw [br_iff]; refine ⟨fun g => ?_, fun g4 => ?_⟩
    · have hc : c = 4 := by simpa only [br_iff, need_iff, andB_t, andB_f, orB_t, orB_f, notB_t, notB_f, leI_t, leI_f, ltI_t, ltI_f, eqI_t, eqI_f, leN_t, leN_f, eqN_t, eqN_f, eqS_t, eqS_f, eqB_t, eqB_f, catOk_t, leC_t] using g
      refine ⟨l, rfl, by omega, ?_⟩
      rw [br_iff]
      refine ⟨fun g => ?_, fun g => ?_⟩
      · exact f (l' := ⟨false, [], l ++ [t]⟩) (e := []) (by unfold typeF; rw [if_neg (by simp), if_neg (by omega), if_neg (by omega), if_pos hc, if_pos (by simp only [br_iff, need_iff, andB_t, andB_f, orB_t, orB_f, notB_t, notB_f, leI_t, leI_f, ltI_t, ltI_f, eqI_t, eqI_f, leN_t, leN_f, eqN_t, eqN_f, eqS_t, eqS_f, eqB_t, eqB_f, catOk_t, leC_t, Int.ofNat_eq_natCast] at g; show l.length < 1024; omega)])
      · exact f (l' := ⟨false, t, l⟩) (e := []) (by unfold typeF; rw [if_neg (by simp), if_neg (by omega), if_neg (by omega), if_pos hc, if_neg (by simp only [br_iff, need_iff, andB_t, andB_f, orB_t, orB_f, notB_t, notB_f, leI_t, leI_f, ltI_t, ltI_f, eqI_t, eqI_f, leN_t, leN_f, eqN_t, eqN_f, eqS_t, eqS_f, eqB_t, eqB_f, catOk_t, leC_t, Int.ofNat_eq_natCast] at g; show ¬ l.length < 1024; omega)])
    simp only [br_iff, need_iff, andB_t, andB_f, orB_t, orB_f, notB_t, notB_f, leI_t, leI_f, ltI_t, ltI_f, eqI_t, eqI_f, leN_t, leN_f, eqN_t, eqN_f, eqS_t, eqS_f, eqB_t, eqB_f, catOk_t, leC_t] at g4
    exact f (l' := ⟨false, t, l⟩) (e := []) (by unfold typeF; rw [if_neg (by simp), if_neg (by omega), if_neg (by omega), if_neg g4, if_neg (by rw [gp]; simp)])
  · exact h.elim
def rfdI (l : Line) (s : List UInt8) (x : rfdX) (m : Nat) : Prop := ∃ k : Nat, k + m = s.length ∧
  x = ⟨(feedF l (s.take k)).1.raw, (feedF l (s.take k)).1.text, strV (feedF l (s.take k)).1.ready, (feedF l (s.take k)).2, (k : Int)⟩
theorem rfd_con {n : Nat} (hn : 3 ≤ n) : ConOk (evalF Tryz.prog cfgN n) 48 feedCon := by
  intro vs bs K h
  unfold feedCon at h
  split at h
  · rename_i r t xs s
    obtain ⟨l, rfl, hR, hs, hK⟩ := h
    refine run_of (lp := lpOf [(3, rfdL fun _ _ x m => rfdI ⟨r, t, l⟩ s x m)]) (by omega) (ct := ctOf [(79, typeCon)]) (fun k hk => ctOf_ok (ctOf_cons (rty_con (by omega)) (ctOf_nil _))) ?_
    rw [rfd_vc]
    refine ⟨⟨s.length, by omega, 0, by omega, rfl⟩, ?_⟩
    rintro _ m ⟨k, hk, rfl⟩
    have hR' := feedF_right (s.take k) hR
    have hE := feedF_echo (s.take k) hR
    rw [List.length_take] at hE
    generalize hq : feedF ⟨r, t, l⟩ (s.take k) = q at hR' hE ⊢
    obtain ⟨⟨r', t', l'⟩, e⟩ := q
    dsimp only at hR' hE ⊢
    rw [br_iff]
    refine ⟨fun hlt => ?_, fun hge => ?_⟩
    · have hlt : k < s.length := by simp only [br_iff, need_iff, andB_t, andB_f, orB_t, orB_f, notB_t, notB_f, leI_t, leI_f, ltI_t, ltI_f, eqI_t, eqI_f, leN_t, leN_f, eqN_t, eqN_f, eqS_t, eqS_f, eqB_t, eqB_f, catOk_t, leC_t, lenS] at hlt; omega
      have hb : 0 ≤ atS s (k : Int) ∧ atS s (k : Int) ≤ 255 := by rw [atS_at hlt]; exact byte255 _
      have hstep := feedF_take (l := ⟨r, t, l⟩) hlt
      rw [hq] at hstep
      dsimp only at hstep
      have hE2 := typeF_echo hR' (atS s (k : Int))
      rw [need_iff]; refine ⟨by simp only [br_iff, need_iff, andB_t, andB_f, orB_t, orB_f, notB_t, notB_f, leI_t, leI_f, ltI_t, ltI_f, eqI_t, eqI_f, leN_t, leN_f, eqN_t, eqN_f, eqS_t, eqS_f, eqB_t, eqB_f, catOk_t, leC_t, lenS]; omega, l', rfl, hR', hb.1, hb.2, ?_⟩
      rw [need_iff]; refine ⟨by simp only [br_iff, need_iff, andB_t, andB_f, orB_t, orB_f, notB_t, notB_f, leI_t, leI_f, ltI_t, ltI_f, eqI_t, eqI_f, leN_t, leN_f, eqN_t, eqN_f, eqS_t, eqS_f, eqB_t, eqB_f, catOk_t, leC_t]; omega, by trivial, m - 1, by omega, k + 1, by omega, ?_⟩
      rw [hstep, addI_i64 (by omega) (by omega)]; rfl
    · have hk2 : k = s.length := by simp only [br_iff, need_iff, andB_t, andB_f, orB_t, orB_f, notB_t, notB_f, leI_t, leI_f, ltI_t, ltI_f, eqI_t, eqI_f, leN_t, leN_f, eqN_t, eqN_f, eqS_t, eqS_f, eqB_t, eqB_f, catOk_t, leC_t, lenS] at hge; omega
      subst hk2
      rw [List.take_length] at hq
      rw [hq] at hK
      exact hK
  · exact h.elim
end Go.Proofs.YtdbbpibfejchfaaGreatDoor
namespace Go.Proofs.YtdbbpibfejchfaaGreatDoor
open Go.RowKit
set_option maxRecDepth 100000
set_option linter.unusedVariables false
set_option linter.unusedSimpArgs false
theorem sr_vc (r : Bool) (t : List UInt8) (xs : List (List V)) (b : Bool) (K : V → List Bk → Prop) : vcF Tryz.prog cfgN (ctOf [(70, ownCon), (92, delivCon)]) (lpOf []) 77 [.agg [.bool r, .str t, .lst xs], .bool b] [] K = (
  ∃ l5 : List (List UInt8), ((xs : List (List V)) = strV l5) ∧ (
  (((l5.length : Nat) ≤ 100000)) ∧ (
  br (b) (
    br (notB r) (
      br (notB (eqS t [])) (
        ∃ l6 : List (List UInt8), ((strV l5 : List (List V)) = strV l6) ∧ (
        ((l5.length : Nat) = l6.length) ∧ (
        ((l5.length : Nat) = l6.length) ∧ (
        (((l6.length : Nat) ≤ 100000)) ∧ (
        br (ltI (Int.ofNat l6.length) 1024) (
          K (V.agg [V.bool b, V.str [], V.lst (List.take (l6.length + 1) (List.drop 0 (strV (l6 ++ [t]))))]) []) (
          K (V.agg [V.bool b, V.str [], V.lst (List.take l5.length (List.drop 0 (strV l6)))]) [])))))) (
        K (V.agg [V.bool b, V.str t, V.lst (List.take l5.length (List.drop 0 (strV l5)))]) [])) (
      K (V.agg [V.bool b, V.str t, V.lst (List.take l5.length (List.drop 0 (strV l5)))]) [])) (
    K (V.agg [V.bool b, V.str t, V.lst (List.take l5.length (List.drop 0 (strV l5)))]) [])))) := by kernel_rfl

end Go.Proofs.YtdbbpibfejchfaaGreatDoor
namespace Go.Proofs.YtdbbpibfejchfaaGreatDoor
open Go.RowKit
set_option maxRecDepth 100000
set_option linter.unusedVariables false
set_option linter.unusedSimpArgs false
theorem sr_con {n : Nat} (hn : 2 ≤ n) : ConOk (evalF Tryz.prog cfgN n) 77 setRawCon := by
  intro vs bs K h
  unfold setRawCon at h
  split at h
  · rename_i r t xs b
    obtain ⟨l, rfl, hR, hK⟩ := h
    obtain ⟨a1, a2, a3, a4, a5⟩ := (rightL_iff _).1 hR
    dsimp only at a1 a2 a3 a4 a5
    refine run_of (lp := lpOf []) (by omega) (ct := ctOf [(70, ownCon), (92, delivCon)]) (fun k hk => ctOf_ok (ctOf_cons (own_con (by omega)) (ctOf_cons (dl_con (by omega)) (ctOf_nil _)))) ?_
    rw [sr_vc]
    have f : ∀ {l' : Line}, setRawF ⟨r, t, l⟩ b = l' → K (.agg [.bool l'.raw, .str l'.text, .lst (strV l'.ready)]) [] := fun h => by subst h; exact hK
    have same : ¬ (b = true ∧ r = false ∧ t ≠ []) → K (.agg [.bool b, .str t, .lst (strV l)]) [] := fun hn => f (l' := ⟨b, t, l⟩) (by unfold setRawF; rw [if_neg hn])
    refine ⟨l, rfl, by omega, ?_⟩
    simp only [leN_succ, eqN_self, leI_self, br_ff, br_tt, need_tt, andB_tt, List.drop_zero, List.nil_append, List.append_nil, Nat.zero_add, Nat.add_zero, Nat.sub_zero, List.take_length, Int.ofNat_eq_natCast, Int.toNat_natCast, Int.toNat_zero, strV_all]
    rw [br_iff]; refine ⟨fun hb => ?_, fun hb => same (by rw [hb]; simp)⟩
    rw [br_iff]; refine ⟨fun hr => ?_, fun hr => same (by simp only [notB, Bool.not_eq_false'] at hr; rw [hr]; simp)⟩
    simp only [notB, Bool.not_eq_true'] at hr
    rw [br_iff]; refine ⟨fun ht => ?_, fun ht => same (by simp only [br_iff, need_iff, andB_t, andB_f, orB_t, orB_f, notB_t, notB_f, leI_t, leI_f, ltI_t, ltI_f, eqI_t, eqI_f, leN_t, leN_f, eqN_t, eqN_f, eqS_t, eqS_f, eqB_t, eqB_f, catOk_t, leC_t] at ht; simp [ht])⟩
    have ht : t ≠ [] := by simpa only [br_iff, need_iff, andB_t, andB_f, orB_t, orB_f, notB_t, notB_f, leI_t, leI_f, ltI_t, ltI_f, eqI_t, eqI_f, leN_t, leN_f, eqN_t, eqN_f, eqS_t, eqS_f, eqB_t, eqB_f, catOk_t, leC_t] using ht
    refine ⟨l, rfl, rfl, rfl, by omega, ?_⟩
    have hc : b = true ∧ r = false ∧ t ≠ [] := ⟨hb, hr, ht⟩
    rw [br_iff]; refine ⟨fun g => ?_, fun g => ?_⟩
    · have := f (l' := ⟨b, [], l ++ [t]⟩) (by unfold setRawF; rw [if_pos hc, if_pos (by simp only [br_iff, need_iff, andB_t, andB_f, orB_t, orB_f, notB_t, notB_f, leI_t, leI_f, ltI_t, ltI_f, eqI_t, eqI_f, leN_t, leN_f, eqN_t, eqN_f, eqS_t, eqS_f, eqB_t, eqB_f, catOk_t, leC_t] at g; simp only; omega)])
      rw [show l.length + 1 = (l ++ [t]).length by simp, strV_all]
      exact this
    · rw [strV_all]
      exact f (l' := ⟨b, [], l⟩) (by unfold setRawF; rw [if_pos hc, if_neg (by simp only [br_iff, need_iff, andB_t, andB_f, orB_t, orB_f, notB_t, notB_f, leI_t, leI_f, ltI_t, ltI_f, eqI_t, eqI_f, leN_t, leN_f, eqN_t, eqN_f, eqS_t, eqS_f, eqB_t, eqB_f, catOk_t, leC_t] at g; simp only; omega)])
  · exact h.elim
end Go.Proofs.YtdbbpibfejchfaaGreatDoor
namespace Go.Proofs.YtdbbpibfejchfaaGreatDoor
open Go.RowKit
set_option maxRecDepth 100000
set_option linter.unusedVariables false
set_option linter.unusedSimpArgs false
theorem rrd_vc (r : Bool) (t : List UInt8) (xs : List (List V)) (n : Int) (K : V → List Bk → Prop) : vcF Tryz.prog cfgN (ctOf []) (lpOf []) 57 [.agg [.bool r, .str t, .lst xs], .int .i64 n] [] K = (
  br (eqI (lenL xs) 0) (
    K (V.tup [V.agg [V.bool r, V.str t, V.lst xs], V.str [], V.bool true]) []) (
    need (andB true (ltI 0 (lenL xs))) (
    need (okRow xs 0 1) (
    ∃ s5 : List UInt8, ((sub (rowAt xs 0) 0 1 : Option (List V)) = some [V.str s5]) ∧ (
    br (ltI (minI (maxI n 0) (lenS s5)) (lenS s5)) (
      need (andB (leI 0 (minI (maxI n 0) (lenS s5))) (leI (minI (maxI n 0) (lenS s5)) (lenS s5))) (
      need (headOkP 1 xs) (
      need (andB true (leI 1 (lenL xs))) (
      need (headOkP 1 (cutL xs 1 (lenL xs))) (
      br (leN (1 + (cutL xs 1 (lenL xs)).length) 1) (
        need (andB (leI 0 (minI (maxI n 0) (lenS s5))) (leI (minI (maxI n 0) (lenS s5)) (lenS s5))) (
        K (V.tup [V.agg [V.bool r, V.str t, V.lst (List.take (1 + (cutL xs 1 (lenL xs)).length) ([V.str (cutS s5 (minI (maxI n 0) (lenS s5)) (lenS s5))] :: (cutL xs 1 (lenL xs) ++ List.drop (1 + (cutL xs 1 (lenL xs)).length) [[V.str (cutS s5 (minI (maxI n 0) (lenS s5)) (lenS s5))]])))], V.str (cutS s5 0 (minI (maxI n 0) (lenS s5))), V.bool false]) [])) (
        need (leN ((1 + (cutL xs 1 (lenL xs)).length) * 16) 140737488355328) (
        need (andB (leI 0 (minI (maxI n 0) (lenS s5))) (leI (minI (maxI n 0) (lenS s5)) (lenS s5))) (
        K (V.tup [V.agg [V.bool r, V.str t, V.lst (List.take (1 + (cutL xs 1 (lenL xs)).length) ([V.str (cutS s5 (minI (maxI n 0) (lenS s5)) (lenS s5))] :: cutL xs 1 (lenL xs)))], V.str (cutS s5 0 (minI (maxI n 0) (lenS s5))), V.bool false]) [])))))))) (
      need (headOkP 1 xs) (
      need (andB true (leI 1 (lenL xs))) (
      need (headOkP 1 (cutL xs 1 (lenL xs))) (
      need (leN ((cutL xs 1 (lenL xs)).length * 16) 140737488355328) (
      need (andB (leI 0 (minI (maxI n 0) (lenS s5))) (leI (minI (maxI n 0) (lenS s5)) (lenS s5))) (
      K (V.tup [V.agg [V.bool r, V.str t, V.lst (List.take (cutL xs 1 (lenL xs)).length (List.drop 0 (cutL xs 1 (lenL xs))))], V.str (cutS s5 0 (minI (maxI n 0) (lenS s5))), V.bool false]) []))))))))))) := by kernel_rfl

theorem rsr_vc (r : Bool) (t : List UInt8) (xs : List (List V)) (b : Bool) (K : V → List Bk → Prop) : vcF Tryz.prog cfgN (ctOf [(96, rdelivCon)]) (lpOf []) 84 [.agg [.bool r, .str t, .lst xs], .bool b] [] K = (
  br (b) (
    br (notB r) (
      br (notB (eqS t [])) (
        ∃ l5 : List (List UInt8), ((xs : List (List V)) = strV l5) ∧ (
        (((l5.length : Nat) ≤ 100000)) ∧ (
        br (ltI (Int.ofNat l5.length) 1024) (
          K (V.agg [V.bool b, V.str [], V.lst (strV (l5 ++ [t]))]) []) (
          K (V.agg [V.bool b, V.str [], V.lst (strV l5)]) [])))) (
        K (V.agg [V.bool b, V.str t, V.lst xs]) [])) (
      K (V.agg [V.bool b, V.str t, V.lst xs]) [])) (
    K (V.agg [V.bool b, V.str t, V.lst xs]) [])) := by kernel_rfl

end Go.Proofs.YtdbbpibfejchfaaGreatDoor
