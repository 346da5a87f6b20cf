/- Windows: conditions of what is looked up. -/
import Derived.Test.YtdbbpibfejchfaaDoorWinLaw
namespace Go.Proofs.YtdbbpibfejchfaaDoor
open Go.RowKit
set_option maxRecDepth 100000
set_option linter.unusedVariables false
set_option linter.unusedSimpArgs false
def smallI (l : List Window) : Prop := l.length ≤ 1000 ∧ ∀ x ∈ l, 0 < x.id ∧ x.id ≤ 1048576

def childCon : Con := fun vs bs K => match vs, bs with
  | [.agg [.int .i64 n, .int .i64 f, .lst xs], .agg [.int .i64 a, .str nm, .int .i64 b, .int .i64 w, .int .i64 d]], [] => ∃ l, xs = windowV l ∧ smallI l ∧ 0 ≤ a ∧ a ≤ 1000000000 ∧ K (.lst (intV (childF l ⟨a, nm, b, w, d⟩))) []
  | _, _ => False

def statCon : Con := fun vs bs K => match vs, bs with
  | [.agg [.int .i64 n, .int .i64 f, .lst xs], .int .i64 id], [] => ∃ l, xs = windowV l ∧ l.length ≤ 1000 ∧ id ≤ 9223372036854775807 ∧ K (.tup [.agg [.int .i64 (statF l id).1.type, .int .i64 (statF l id).1.dev, .int .i64 (statF l id).1.qt, .int .i64 (statF l id).1.qv, .int .i64 (statF l id).1.qp, .int .i64 (statF l id).1.mode, .int .i64 (statF l id).1.atime, .int .i64 (statF l id).1.mtime, .int .i64 (statF l id).1.length, .str (statF l id).1.name, .str (statF l id).1.uid, .str (statF l id).1.gid, .str (statF l id).1.muid], .int .i64 (statF l id).2]) []
  | _, _ => False

def walkCon : Con := fun vs bs K => match vs, bs with
  | [.agg [.int .i64 n, .int .i64 f, .lst xs], .int .i64 id, .str nm], [] => ∃ l, xs = windowV l ∧ rightW ⟨n, f, l⟩ = true ∧ id ≤ 9223372036854775807 ∧ K (.tup [.int .i64 (walkF l id nm).1, .int .i64 (walkF l id nm).2]) []
  | _, _ => False

def listCon : Con := fun vs bs K => match vs, bs with
  | [.agg [.int .i64 n, .int .i64 f, .lst xs], .int .i64 id], [] => ∃ l, xs = windowV l ∧ rightW ⟨n, f, l⟩ = true ∧ id ≤ 9223372036854775807 ∧ K (.tup [.lst (dirV (listF l id).1), .int .i64 (listF l id).2]) []
  | _, _ => False

def nameRCon : Con := fun vs bs K => match vs, bs with
  | [.int .i64 k], [] => K (.str (nameK k)) []
  | _, _ => False

def dirsCon : Con := fun vs bs K => match vs, bs with
  | [.lst xs, .lst ys], [] => ∃ l : List Dir, xs = dirV l ∧ ys = dirV l ∧ l.length ≤ 100000 ∧ K (.bool true) []
  | _, _ => False

structure chC where
  xs : List (List V)
  cnt : Int
structure chX where
  ys : List (List V)
  a : Nat
  b : Nat
  i : Int
def chSt (c : chC) (x : chX) : St := ⟨[(5, .ref 0 0 x.a x.b), (29, .lst c.xs), (30, .int .i64 c.cnt), (31, .int .i64 x.i)], [(0, ⟨true, false, true, x.ys, 0⟩)]⟩
set_option maxHeartbeats 4000000 in
def chUn (s : St) : Option (chC × chX) :=
  match s with
  | ⟨[(q0, .ref q1 q2 a b), (q3, .lst xs), (q4, .int .i64 cnt), (q5, .int .i64 i)], [(q6, ⟨true, false, true, ys, q7⟩)]⟩ => bif Nat.beq q0 5 && Nat.beq q1 0 && Nat.beq q2 0 && Nat.beq q3 29 && Nat.beq q4 30 && Nat.beq q5 31 && Nat.beq q6 0 && Nat.beq q7 0 then some (⟨xs, cnt⟩, ⟨ys, a, b, i⟩) else none
  | _ => none
set_option maxHeartbeats 4000000 in
def chL (inv : chC → chX → chX → Nat → Prop) : LoopS where
  C := chC
  X := chX
  st := chSt
  un := chUn
  ok := by
    intro s c x h
    unfold chUn at h
    split at h
    · simp only [Bool.cond_eq_ite] at h
      split at h
      · rename_i hg
        simp only [Bool.and_eq_true, Nat.beq_eq] at hg
        obtain ⟨⟨⟨⟨⟨⟨⟨rfl, rfl⟩, rfl⟩, rfl⟩, rfl⟩, rfl⟩, rfl⟩, rfl⟩ := hg
        cases h
        rfl
      · cases h
    · cases h
  inv := inv

structure wkC where
  nm : List UInt8
  n : Int
  f : Int
  xs : List (List V)
  zs : List (List V)
  cnt : Int
structure wkX where
  i : Int
def wkSt (c : wkC) (x : wkX) : St := ⟨[(2, .str c.nm), (3, .ptr 0 0 0), (33, .lst c.zs), (34, .int .i64 c.cnt), (35, .int .i64 x.i)], [(0, ⟨true, true, true, [[.int .i64 c.n, .int .i64 c.f, .lst c.xs]], 0⟩)]⟩
set_option maxHeartbeats 4000000 in
def wkUn (s : St) : Option (wkC × wkX) :=
  match s with
  | ⟨[(q0, .str nm), (q1, .ptr q2 q3 q4), (q5, .lst zs), (q6, .int .i64 cnt), (q7, .int .i64 i)], [(q8, ⟨true, true, true, [[.int .i64 n, .int .i64 f, .lst xs]], q9⟩)]⟩ => bif Nat.beq q0 2 && Nat.beq q1 3 && Nat.beq q2 0 && Nat.beq q3 0 && Nat.beq q4 0 && Nat.beq q5 33 && Nat.beq q6 34 && Nat.beq q7 35 && Nat.beq q8 0 && Nat.beq q9 0 then some (⟨nm, n, f, xs, zs, cnt⟩, ⟨i⟩) else none
  | _ => none
set_option maxHeartbeats 4000000 in
def wkL (inv : wkC → wkX → wkX → Nat → Prop) : LoopS where
  C := wkC
  X := wkX
  st := wkSt
  un := wkUn
  ok := by
    intro s c x h
    unfold wkUn at h
    split at h
    · simp only [Bool.cond_eq_ite] at h
      split at h
      · rename_i hg
        simp only [Bool.and_eq_true, Nat.beq_eq] at hg
        obtain ⟨⟨⟨⟨⟨⟨⟨⟨⟨rfl, rfl⟩, rfl⟩, rfl⟩, rfl⟩, rfl⟩, rfl⟩, rfl⟩, rfl⟩, rfl⟩ := hg
        cases h
        rfl
      · cases h
    · cases h
  inv := inv

structure lwC where
  n : Int
  f : Int
  xs : List (List V)
  zs : List (List V)
  cnt : Int
structure lwX where
  ys : List (List V)
  a : Nat
  b : Nat
  i : Int
def lwSt (c : lwC) (x : lwX) : St := ⟨[(2, .ptr 0 0 0), (8, .ref 1 0 x.a x.b), (29, .lst c.zs), (30, .int .i64 c.cnt), (31, .int .i64 x.i)], [(0, ⟨true, true, true, [[.int .i64 c.n, .int .i64 c.f, .lst c.xs]], 0⟩), (1, ⟨true, false, true, x.ys, 0⟩)]⟩
set_option maxHeartbeats 4000000 in
def lwUn (s : St) : Option (lwC × lwX) :=
  match s with
  | ⟨[(q0, .ptr q1 q2 q3), (q4, .ref q5 q6 a b), (q7, .lst zs), (q8, .int .i64 cnt), (q9, .int .i64 i)], [(q10, ⟨true, true, true, [[.int .i64 n, .int .i64 f, .lst xs]], q11⟩), (q12, ⟨true, false, true, ys, q13⟩)]⟩ => bif Nat.beq q0 2 && Nat.beq q1 0 && Nat.beq q2 0 && Nat.beq q3 0 && Nat.beq q4 8 && Nat.beq q5 1 && Nat.beq q6 0 && Nat.beq q7 29 && Nat.beq q8 30 && Nat.beq q9 31 && Nat.beq q10 0 && Nat.beq q11 0 && Nat.beq q12 1 && Nat.beq q13 0 then some (⟨n, f, xs, zs, cnt⟩, ⟨ys, a, b, i⟩) else none
  | _ => none
set_option maxHeartbeats 4000000 in
def lwL (inv : lwC → lwX → lwX → Nat → Prop) : LoopS where
  C := lwC
  X := lwX
  st := lwSt
  un := lwUn
  ok := by
    intro s c x h
    unfold lwUn at h
    split at h
    · simp only [Bool.cond_eq_ite] at h
      split at h
      · rename_i hg
        simp only [Bool.and_eq_true, Nat.beq_eq] at hg
        obtain ⟨⟨⟨⟨⟨⟨⟨⟨⟨⟨⟨⟨⟨rfl, rfl⟩, rfl⟩, rfl⟩, rfl⟩, rfl⟩, rfl⟩, rfl⟩, rfl⟩, rfl⟩, rfl⟩, rfl⟩, rfl⟩, rfl⟩ := hg
        cases h
        rfl
      · cases h
    · cases h
  inv := inv

structure rwkC where
  id : Int
  nm : List UInt8
  n : Int
  f : Int
  xs : List (List V)
structure rwkX where
  i : Int
def rwkSt (c : rwkC) (x : rwkX) : St := ⟨[(1, .int .i64 c.id), (2, .str c.nm), (3, .ptr 0 0 0), (9, .int .i64 x.i)], [(0, ⟨true, true, true, [[.int .i64 c.n, .int .i64 c.f, .lst c.xs]], 0⟩)]⟩
set_option maxHeartbeats 4000000 in
def rwkUn (s : St) : Option (rwkC × rwkX) :=
  match s with
  | ⟨[(q0, .int .i64 id), (q1, .str nm), (q2, .ptr q3 q4 q5), (q6, .int .i64 i)], [(q7, ⟨true, true, true, [[.int .i64 n, .int .i64 f, .lst xs]], q8⟩)]⟩ => bif Nat.beq q0 1 && Nat.beq q1 2 && Nat.beq q2 3 && Nat.beq q3 0 && Nat.beq q4 0 && Nat.beq q5 0 && Nat.beq q6 9 && Nat.beq q7 0 && Nat.beq q8 0 then some (⟨id, nm, n, f, xs⟩, ⟨i⟩) else none
  | _ => none
set_option maxHeartbeats 4000000 in
def rwkL (inv : rwkC → rwkX → rwkX → Nat → Prop) : LoopS where
  C := rwkC
  X := rwkX
  st := rwkSt
  un := rwkUn
  ok := by
    intro s c x h
    unfold rwkUn at h
    split at h
    · simp only [Bool.cond_eq_ite] at h
      split at h
      · rename_i hg
        simp only [Bool.and_eq_true, Nat.beq_eq] at hg
        obtain ⟨⟨⟨⟨⟨⟨⟨⟨rfl, rfl⟩, rfl⟩, rfl⟩, rfl⟩, rfl⟩, rfl⟩, rfl⟩, rfl⟩ := hg
        cases h
        rfl
      · cases h
    · cases h
  inv := inv

structure rlaC where
  id : Int
  n : Int
  f : Int
  xs : List (List V)
structure rlaX where
  ys : List (List V)
  a : Nat
  b : Nat
  i : Int
def rlaSt (c : rlaC) (x : rlaX) : St := ⟨[(1, .int .i64 c.id), (2, .ptr 0 0 0), (6, .ref 1 0 x.a x.b), (7, .int .i64 x.i)], [(0, ⟨true, true, true, [[.int .i64 c.n, .int .i64 c.f, .lst c.xs]], 0⟩), (1, ⟨true, false, true, x.ys, 0⟩)]⟩
set_option maxHeartbeats 4000000 in
def rlaUn (s : St) : Option (rlaC × rlaX) :=
  match s with
  | ⟨[(q0, .int .i64 id), (q1, .ptr q2 q3 q4), (q5, .ref q6 q7 a b), (q8, .int .i64 i)], [(q9, ⟨true, true, true, [[.int .i64 n, .int .i64 f, .lst xs]], q10⟩), (q11, ⟨true, false, true, ys, q12⟩)]⟩ => bif Nat.beq q0 1 && Nat.beq q1 2 && Nat.beq q2 0 && Nat.beq q3 0 && Nat.beq q4 0 && Nat.beq q5 6 && Nat.beq q6 1 && Nat.beq q7 0 && Nat.beq q8 7 && Nat.beq q9 0 && Nat.beq q10 0 && Nat.beq q11 1 && Nat.beq q12 0 then some (⟨id, n, f, xs⟩, ⟨ys, a, b, i⟩) else none
  | _ => none
set_option maxHeartbeats 4000000 in
def rlaL (inv : rlaC → rlaX → rlaX → Nat → Prop) : LoopS where
  C := rlaC
  X := rlaX
  st := rlaSt
  un := rlaUn
  ok := by
    intro s c x h
    unfold rlaUn at h
    split at h
    · simp only [Bool.cond_eq_ite] at h
      split at h
      · rename_i hg
        simp only [Bool.and_eq_true, Nat.beq_eq] at hg
        obtain ⟨⟨⟨⟨⟨⟨⟨⟨⟨⟨⟨⟨rfl, rfl⟩, rfl⟩, rfl⟩, rfl⟩, rfl⟩, rfl⟩, rfl⟩, rfl⟩, rfl⟩, rfl⟩, rfl⟩, rfl⟩ := hg
        cases h
        rfl
      · cases h
    · cases h
  inv := inv

structure rlbC where
  id : Int
  n : Int
  f : Int
  xs : List (List V)
structure rlbX where
  ys : List (List V)
  a : Nat
  b : Nat
  i : Int
def rlbSt (c : rlbC) (x : rlbX) : St := ⟨[(1, .int .i64 c.id), (2, .ptr 0 0 0), (6, .ref 1 0 x.a x.b), (8, .int .i64 x.i)], [(0, ⟨true, true, true, [[.int .i64 c.n, .int .i64 c.f, .lst c.xs]], 0⟩), (1, ⟨true, false, true, x.ys, 0⟩)]⟩
set_option maxHeartbeats 4000000 in
def rlbUn (s : St) : Option (rlbC × rlbX) :=
  match s with
  | ⟨[(q0, .int .i64 id), (q1, .ptr q2 q3 q4), (q5, .ref q6 q7 a b), (q8, .int .i64 i)], [(q9, ⟨true, true, true, [[.int .i64 n, .int .i64 f, .lst xs]], q10⟩), (q11, ⟨true, false, true, ys, q12⟩)]⟩ => bif Nat.beq q0 1 && Nat.beq q1 2 && Nat.beq q2 0 && Nat.beq q3 0 && Nat.beq q4 0 && Nat.beq q5 6 && Nat.beq q6 1 && Nat.beq q7 0 && Nat.beq q8 8 && Nat.beq q9 0 && Nat.beq q10 0 && Nat.beq q11 1 && Nat.beq q12 0 then some (⟨id, n, f, xs⟩, ⟨ys, a, b, i⟩) else none
  | _ => none
set_option maxHeartbeats 4000000 in
def rlbL (inv : rlbC → rlbX → rlbX → Nat → Prop) : LoopS where
  C := rlbC
  X := rlbX
  st := rlbSt
  un := rlbUn
  ok := by
    intro s c x h
    unfold rlbUn at h
    split at h
    · simp only [Bool.cond_eq_ite] at h
      split at h
      · rename_i hg
        simp only [Bool.and_eq_true, Nat.beq_eq] at hg
        obtain ⟨⟨⟨⟨⟨⟨⟨⟨⟨⟨⟨⟨rfl, rfl⟩, rfl⟩, rfl⟩, rfl⟩, rfl⟩, rfl⟩, rfl⟩, rfl⟩, rfl⟩, rfl⟩, rfl⟩, rfl⟩ := hg
        cases h
        rfl
      · cases h
    · cases h
  inv := inv

structure rlcC where
  n : Int
  f : Int
  xs : List (List V)
  zs : List (List V)
  cnt : Int
structure rlcX where
  ys : List (List V)
  a : Nat
  b : Nat
  i : Int
def rlcSt (c : rlcC) (x : rlcX) : St := ⟨[(2, .ptr 0 0 0), (6, .lst c.zs), (9, .ref 1 0 x.a x.b), (68, .int .i64 c.cnt), (69, .int .i64 x.i)], [(0, ⟨true, true, true, [[.int .i64 c.n, .int .i64 c.f, .lst c.xs]], 0⟩), (1, ⟨true, false, true, x.ys, 0⟩)]⟩
set_option maxHeartbeats 4000000 in
def rlcUn (s : St) : Option (rlcC × rlcX) :=
  match s with
  | ⟨[(q0, .ptr q1 q2 q3), (q4, .lst zs), (q5, .ref q6 q7 a b), (q8, .int .i64 cnt), (q9, .int .i64 i)], [(q10, ⟨true, true, true, [[.int .i64 n, .int .i64 f, .lst xs]], q11⟩), (q12, ⟨true, false, true, ys, q13⟩)]⟩ => bif Nat.beq q0 2 && Nat.beq q1 0 && Nat.beq q2 0 && Nat.beq q3 0 && Nat.beq q4 6 && Nat.beq q5 9 && Nat.beq q6 1 && Nat.beq q7 0 && Nat.beq q8 68 && Nat.beq q9 69 && Nat.beq q10 0 && Nat.beq q11 0 && Nat.beq q12 1 && Nat.beq q13 0 then some (⟨n, f, xs, zs, cnt⟩, ⟨ys, a, b, i⟩) else none
  | _ => none
set_option maxHeartbeats 4000000 in
def rlcL (inv : rlcC → rlcX → rlcX → Nat → Prop) : LoopS where
  C := rlcC
  X := rlcX
  st := rlcSt
  un := rlcUn
  ok := by
    intro s c x h
    unfold rlcUn at h
    split at h
    · simp only [Bool.cond_eq_ite] at h
      split at h
      · rename_i hg
        simp only [Bool.and_eq_true, Nat.beq_eq] at hg
        obtain ⟨⟨⟨⟨⟨⟨⟨⟨⟨⟨⟨⟨⟨rfl, rfl⟩, rfl⟩, rfl⟩, rfl⟩, rfl⟩, rfl⟩, rfl⟩, rfl⟩, rfl⟩, rfl⟩, rfl⟩, rfl⟩, rfl⟩ := hg
        cases h
        rfl
      · cases h
    · cases h
  inv := inv

structure dsC where
  xs : List (List V)
  ys : List (List V)
  cnt : Int
structure dsX where
  i : Int
def dsSt (c : dsC) (x : dsX) : St := ⟨[(0, .lst c.xs), (1, .lst c.ys), (12, .int .i64 c.cnt), (13, .int .i64 x.i)], []⟩
set_option maxHeartbeats 4000000 in
def dsUn (s : St) : Option (dsC × dsX) :=
  match s with
  | ⟨[(q0, .lst xs), (q1, .lst ys), (q2, .int .i64 cnt), (q3, .int .i64 i)], []⟩ => bif Nat.beq q0 0 && Nat.beq q1 1 && Nat.beq q2 12 && Nat.beq q3 13 then some (⟨xs, ys, cnt⟩, ⟨i⟩) else none
  | _ => none
set_option maxHeartbeats 4000000 in
def dsL (inv : dsC → dsX → dsX → Nat → Prop) : LoopS where
  C := dsC
  X := dsX
  st := dsSt
  un := dsUn
  ok := by
    intro s c x h
    unfold dsUn at h
    split at h
    · simp only [Bool.cond_eq_ite] at h
      split at h
      · rename_i hg
        simp only [Bool.and_eq_true, Nat.beq_eq] at hg
        obtain ⟨⟨⟨rfl, rfl⟩, rfl⟩, rfl⟩ := hg
        cases h
        rfl
      · cases h
    · cases h
  inv := inv

theorem ch_vc (n f : Int) (xs : List (List V)) (a : Int) (nm : List UInt8) (b w d : Int) (I : chC → chX → chX → Nat → Prop) (K : V → List Bk → Prop) : vcF Tryd.prog cfgN (ctOf []) (lpOf [(4, unrL 6), (10, chL I)]) 41 [.agg [.int .i64 n, .int .i64 f, .lst xs], .agg [.int .i64 a, .str nm, .int .i64 b, .int .i64 w, .int .i64 d]] [] K = (
  br (leI 0 w) (
    K (V.lst [[V.int IntKind.i64 (addI IntKind.i64 a 1)], [V.int IntKind.i64 (addI IntKind.i64 a 2)], [V.int IntKind.i64 (addI IntKind.i64 a 3)], [V.int IntKind.i64 (addI IntKind.i64 a 4)], [V.int IntKind.i64 (addI IntKind.i64 a 5)]]) []) (
    (∃ m10 : Nat, (((m10 : Nat) < 18446744073709551616)) ∧ (
    I (chC.mk xs (lenL xs)) (chX.mk [[V.int IntKind.i64 2]] 1 1 0) (chX.mk [[V.int IntKind.i64 2]] 1 1 0) m10)) ∧ (
    ∀ x10 : (chL I).X, ∀ m11 : Nat, (I (chC.mk xs (lenL xs)) (chX.mk [[V.int IntKind.i64 2]] 1 1 0) x10 m11) → (
    br (ltI x10.4 (lenL xs)) (
      need (andB (leI 0 x10.4) (ltI x10.4 (lenL xs))) (
      need (okRow xs x10.4.toNat 8) (
      ∃ n12 : Int, ∃ s13 : List UInt8, ∃ b14 : Bool, ∃ s15 : List UInt8, ∃ xs16 : List (List V), ∃ s17 : List UInt8, ∃ n18 : Int, ∃ b19 : Bool, ((sub (rowAt xs x10.4) 0 8 : Option (List V)) = some [V.int IntKind.i64 n12, V.str s13, V.bool b14, V.str s15, V.lst xs16, V.str s17, V.int IntKind.i64 n18, V.bool b19]) ∧ (
      br (notB b19) (
        need (headOkP 1 x10.1) (
        br (leN (x10.2 + 1) x10.3) (
          ((chC.mk xs (lenL xs) : (chL I).C) = chC.mk xs (lenL xs)) ∧ (
          ∃ m'20 : Nat, (((m'20 : Nat) < m11)) ∧ (
          I (chC.mk xs (lenL xs)) (chX.mk [[V.int IntKind.i64 2]] 1 1 0) (chX.mk (List.take (0 + x10.2) x10.1 ++ [[V.int IntKind.i64 (mulI IntKind.i64 16 n12)]] ++ List.drop (0 + x10.2 + 1) x10.1) (x10.2 + 1) x10.3 (addI IntKind.i64 x10.4 1)) m'20))) (
          need (eqN (0 + x10.2) x10.1.length) (
          need (leN ((x10.2 + 1) * 8) 140737488355328) (
          ((chC.mk xs (lenL xs) : (chL I).C) = chC.mk xs (lenL xs)) ∧ (
          ∃ m'20 : Nat, (((m'20 : Nat) < m11)) ∧ (
          I (chC.mk xs (lenL xs)) (chX.mk [[V.int IntKind.i64 2]] 1 1 0) (chX.mk (List.drop 0 x10.1 ++ [[V.int IntKind.i64 (mulI IntKind.i64 16 n12)]]) (x10.2 + 1) (x10.2 + 1) (addI IntKind.i64 x10.4 1)) m'20))))))) (
        ((chC.mk xs (lenL xs) : (chL I).C) = chC.mk xs (lenL xs)) ∧ (
        ∃ m'20 : Nat, (((m'20 : Nat) < m11)) ∧ (
        I (chC.mk xs (lenL xs)) (chX.mk [[V.int IntKind.i64 2]] 1 1 0) (chX.mk x10.1 x10.2 x10.3 (addI IntKind.i64 x10.4 1)) m'20))))))) (
      K (V.lst (List.take x10.2 (List.drop 0 x10.1))) []))))) := by kernel_rfl

theorem st_vc (n f : Int) (xs : List (List V)) (id : Int) (K : V → List Bk → Prop) : vcF Tryd.prog cfgN (ctOf [(36, findCon), (37, inlC Tryd.prog cfgN (ctOf []) 37)]) (lpOf []) 21 [.agg [.int .i64 n, .int .i64 f, .lst xs], .int .i64 id] [] K = (
  ∃ l5 : List Window, ((xs : List (List V)) = windowV l5) ∧ (
  (((l5.length : Nat) ≤ 1000)) ∧ (
  (((id : Int) ≤ 9223372036854775807)) ∧ (
  (∀ p6 : Place, ((fileF l5 id : Option Place) = some p6) → (
  br (leI 2147483648 p6.3) (
    K (V.tup [V.agg [V.int IntKind.i64 4, V.int IntKind.i64 0, V.int IntKind.i64 128, V.int IntKind.i64 0, V.int IntKind.i64 id, V.int IntKind.i64 p6.3, V.int IntKind.i64 0, V.int IntKind.i64 0, V.int IntKind.i64 0, V.str p6.2, V.str [], V.str [], V.str []], V.int IntKind.i64 0]) []) (
    K (V.tup [V.agg [V.int IntKind.i64 4, V.int IntKind.i64 0, V.int IntKind.i64 0, V.int IntKind.i64 0, V.int IntKind.i64 id, V.int IntKind.i64 p6.3, V.int IntKind.i64 0, V.int IntKind.i64 0, V.int IntKind.i64 0, V.str p6.2, V.str [], V.str [], V.str []], V.int IntKind.i64 0]) []))) ∧ (
  ((fileF l5 id : Option Place) = none) → (
  K (V.tup [V.agg [V.int IntKind.i64 0, V.int IntKind.i64 0, V.int IntKind.i64 0, V.int IntKind.i64 0, V.int IntKind.i64 0, V.int IntKind.i64 0, V.int IntKind.i64 0, V.int IntKind.i64 0, V.int IntKind.i64 0, V.str [], V.str [], V.str [], V.str []], V.int IntKind.i64 8]) [])))))) := by kernel_rfl

def wk_vc_1 (n f : Int) (xs : List (List V)) (id : Int) (nm : List UInt8) (I : wkC → wkX → wkX → Nat → Prop) (K : V → List Bk → Prop) (l9 : List Window) (p8 : Place) (m11 : Nat) (x10 : (wkL I).X) : Prop :=
  (
          ((wkC.mk nm n f xs (intV (childF l9 (Place.mk p8.1 p8.2 p8.3 p8.4 p8.5))) (lenL (intV (childF l9 (Place.mk p8.1 p8.2 p8.3 p8.4 p8.5)))) : (wkL I).C) = wkC.mk nm n f xs (intV (childF l9 (Place.mk p8.1 p8.2 p8.3 p8.4 p8.5))) (lenL (intV (childF l9 (Place.mk p8.1 p8.2 p8.3 p8.4 p8.5))))) ∧ (
          ∃ m'15 : Nat, (((m'15 : Nat) < m11)) ∧ (
          I (wkC.mk nm n f xs (intV (childF l9 (Place.mk p8.1 p8.2 p8.3 p8.4 p8.5))) (lenL (intV (childF l9 (Place.mk p8.1 p8.2 p8.3 p8.4 p8.5))))) (wkX.mk 0) (wkX.mk (addI IntKind.i64 x10.1 1)) m'15)))
theorem wk_vc (n f : Int) (xs : List (List V)) (id : Int) (nm : List UInt8) (I : wkC → wkX → wkX → Nat → Prop) (K : V → List Bk → Prop) : vcF Tryd.prog cfgN (ctOf [(36, findCon), (37, inlC Tryd.prog cfgN (ctOf []) 37), (41, childCon)]) (lpOf [(9, wkL I)]) 19 [.agg [.int .i64 n, .int .i64 f, .lst xs], .int .i64 id, .str nm] [] K = (
  ∃ l7 : List Window, ((xs : List (List V)) = windowV l7) ∧ (
  (((l7.length : Nat) ≤ 1000)) ∧ (
  (((id : Int) ≤ 9223372036854775807)) ∧ (
  (∀ p8 : Place, ((fileF l7 id : Option Place) = some p8) → (
  br (notB (leI 2147483648 p8.3)) (
    K (V.tup [V.int IntKind.i64 0, V.int IntKind.i64 9]) []) (
    br (eqS nm [46, 46]) (
      K (V.tup [V.int IntKind.i64 1, V.int IntKind.i64 0]) []) (
      ∃ l9 : List Window, ((xs : List (List V)) = windowV l9) ∧ (
      (smallI l9) ∧ (
      (((0 : Int) ≤ p8.1)) ∧ (
      (((p8.1 : Int) ≤ 1000000000)) ∧ (
      (∃ m10 : Nat, (((m10 : Nat) < 18446744073709551616)) ∧ (
      I (wkC.mk nm n f xs (intV (childF l9 (Place.mk p8.1 p8.2 p8.3 p8.4 p8.5))) (lenL (intV (childF l9 (Place.mk p8.1 p8.2 p8.3 p8.4 p8.5))))) (wkX.mk 0) (wkX.mk 0) m10)) ∧ (
      ∀ x10 : (wkL I).X, ∀ m11 : Nat, (I (wkC.mk nm n f xs (intV (childF l9 (Place.mk p8.1 p8.2 p8.3 p8.4 p8.5))) (lenL (intV (childF l9 (Place.mk p8.1 p8.2 p8.3 p8.4 p8.5))))) (wkX.mk 0) x10 m11) → (
      br (ltI x10.1 (lenL (intV (childF l9 (Place.mk p8.1 p8.2 p8.3 p8.4 p8.5))))) (
        need (andB (leI 0 x10.1) (ltI x10.1 (lenL (intV (childF l9 (Place.mk p8.1 p8.2 p8.3 p8.4 p8.5)))))) (
        need (okRow (intV (childF l9 (Place.mk p8.1 p8.2 p8.3 p8.4 p8.5))) x10.1.toNat 1) (
        ∃ n12 : Int, ((sub (rowAt (intV (childF l9 (Place.mk p8.1 p8.2 p8.3 p8.4 p8.5))) x10.1) 0 1 : Option (List V)) = some [V.int IntKind.i64 n12]) ∧ (
        ∃ l13 : List Window, ((xs : List (List V)) = windowV l13) ∧ (
        (((l13.length : Nat) ≤ 1000)) ∧ (
        (((n12 : Int) ≤ 9223372036854775807)) ∧ (
        (∀ p14 : Place, ((fileF l13 n12 : Option Place) = some p14) → (
        br (eqS p14.2 nm) (
          K (V.tup [V.int IntKind.i64 n12, V.int IntKind.i64 0]) []) (wk_vc_1 n f xs id nm I K l9 p8 m11 x10))) ∧ (
        ((fileF l13 n12 : Option Place) = none) → (
        br (eqS [] nm) (
          K (V.tup [V.int IntKind.i64 n12, V.int IntKind.i64 0]) []) (wk_vc_1 n f xs id nm I K l9 p8 m11 x10)))))))))) (
        K (V.tup [V.int IntKind.i64 0, V.int IntKind.i64 8]) []))))))))))) ∧ (
  ((fileF l7 id : Option Place) = none) → (
  K (V.tup [V.int IntKind.i64 0, V.int IntKind.i64 8]) [])))))) := by kernel_rfl

theorem lw_vc (n f : Int) (xs : List (List V)) (id : Int) (I : lwC → lwX → lwX → Nat → Prop) (K : V → List Bk → Prop) : vcF Tryd.prog cfgN (ctOf [(36, findCon), (37, inlC Tryd.prog cfgN (ctOf []) 37), (41, childCon), (21, statCon)]) (lpOf [(8, lwL I)]) 23 [.agg [.int .i64 n, .int .i64 f, .lst xs], .int .i64 id] [] K = (
  ∃ l6 : List Window, ((xs : List (List V)) = windowV l6) ∧ (
  (((l6.length : Nat) ≤ 1000)) ∧ (
  (((id : Int) ≤ 9223372036854775807)) ∧ (
  (∀ p7 : Place, ((fileF l6 id : Option Place) = some p7) → (
  br (notB (leI 2147483648 p7.3)) (
    K (V.tup [V.lst [], V.int IntKind.i64 9]) []) (
    ∃ l8 : List Window, ((xs : List (List V)) = windowV l8) ∧ (
    (smallI l8) ∧ (
    (((0 : Int) ≤ p7.1)) ∧ (
    (((p7.1 : Int) ≤ 1000000000)) ∧ (
    (∃ m9 : Nat, (((m9 : Nat) < 18446744073709551616)) ∧ (
    I (lwC.mk n f xs (intV (childF l8 (Place.mk p7.1 p7.2 p7.3 p7.4 p7.5))) (lenL (intV (childF l8 (Place.mk p7.1 p7.2 p7.3 p7.4 p7.5))))) (lwX.mk [] 0 0 0) (lwX.mk [] 0 0 0) m9)) ∧ (
    ∀ x9 : (lwL I).X, ∀ m10 : Nat, (I (lwC.mk n f xs (intV (childF l8 (Place.mk p7.1 p7.2 p7.3 p7.4 p7.5))) (lenL (intV (childF l8 (Place.mk p7.1 p7.2 p7.3 p7.4 p7.5))))) (lwX.mk [] 0 0 0) x9 m10) → (
    br (ltI x9.4 (lenL (intV (childF l8 (Place.mk p7.1 p7.2 p7.3 p7.4 p7.5))))) (
      need (andB (leI 0 x9.4) (ltI x9.4 (lenL (intV (childF l8 (Place.mk p7.1 p7.2 p7.3 p7.4 p7.5)))))) (
      need (okRow (intV (childF l8 (Place.mk p7.1 p7.2 p7.3 p7.4 p7.5))) x9.4.toNat 1) (
      ∃ n11 : Int, ((sub (rowAt (intV (childF l8 (Place.mk p7.1 p7.2 p7.3 p7.4 p7.5))) x9.4) 0 1 : Option (List V)) = some [V.int IntKind.i64 n11]) ∧ (
      ∃ l12 : List Window, ((xs : List (List V)) = windowV l12) ∧ (
      (((l12.length : Nat) ≤ 1000)) ∧ (
      (((n11 : Int) ≤ 9223372036854775807)) ∧ (
      need (headOkP 13 x9.1) (
      br (leN (x9.2 + 1) x9.3) (
        ((lwC.mk n f xs (intV (childF l8 (Place.mk p7.1 p7.2 p7.3 p7.4 p7.5))) (lenL (intV (childF l8 (Place.mk p7.1 p7.2 p7.3 p7.4 p7.5)))) : (lwL I).C) = lwC.mk n f xs (intV (childF l8 (Place.mk p7.1 p7.2 p7.3 p7.4 p7.5))) (lenL (intV (childF l8 (Place.mk p7.1 p7.2 p7.3 p7.4 p7.5))))) ∧ (
        ∃ m'13 : Nat, (((m'13 : Nat) < m10)) ∧ (
        I (lwC.mk n f xs (intV (childF l8 (Place.mk p7.1 p7.2 p7.3 p7.4 p7.5))) (lenL (intV (childF l8 (Place.mk p7.1 p7.2 p7.3 p7.4 p7.5))))) (lwX.mk [] 0 0 0) (lwX.mk (List.take (0 + x9.2) x9.1 ++ [[V.int IntKind.i64 (statF l12 n11).fst.1, V.int IntKind.i64 (statF l12 n11).fst.2, V.int IntKind.i64 (statF l12 n11).fst.3, V.int IntKind.i64 (statF l12 n11).fst.4, V.int IntKind.i64 (statF l12 n11).fst.5, V.int IntKind.i64 (statF l12 n11).fst.6, V.int IntKind.i64 (statF l12 n11).fst.7, V.int IntKind.i64 (statF l12 n11).fst.8, V.int IntKind.i64 (statF l12 n11).fst.9, V.str (statF l12 n11).fst.10, V.str (statF l12 n11).fst.11, V.str (statF l12 n11).fst.12, V.str (statF l12 n11).fst.13]] ++ List.drop (0 + x9.2 + 1) x9.1) (x9.2 + 1) x9.3 (addI IntKind.i64 x9.4 1)) m'13))) (
        need (eqN (0 + x9.2) x9.1.length) (
        need (leN ((x9.2 + 1) * 136) 140737488355328) (
        ((lwC.mk n f xs (intV (childF l8 (Place.mk p7.1 p7.2 p7.3 p7.4 p7.5))) (lenL (intV (childF l8 (Place.mk p7.1 p7.2 p7.3 p7.4 p7.5)))) : (lwL I).C) = lwC.mk n f xs (intV (childF l8 (Place.mk p7.1 p7.2 p7.3 p7.4 p7.5))) (lenL (intV (childF l8 (Place.mk p7.1 p7.2 p7.3 p7.4 p7.5))))) ∧ (
        ∃ m'13 : Nat, (((m'13 : Nat) < m10)) ∧ (
        I (lwC.mk n f xs (intV (childF l8 (Place.mk p7.1 p7.2 p7.3 p7.4 p7.5))) (lenL (intV (childF l8 (Place.mk p7.1 p7.2 p7.3 p7.4 p7.5))))) (lwX.mk [] 0 0 0) (lwX.mk (List.drop 0 x9.1 ++ [[V.int IntKind.i64 (statF l12 n11).fst.1, V.int IntKind.i64 (statF l12 n11).fst.2, V.int IntKind.i64 (statF l12 n11).fst.3, V.int IntKind.i64 (statF l12 n11).fst.4, V.int IntKind.i64 (statF l12 n11).fst.5, V.int IntKind.i64 (statF l12 n11).fst.6, V.int IntKind.i64 (statF l12 n11).fst.7, V.int IntKind.i64 (statF l12 n11).fst.8, V.int IntKind.i64 (statF l12 n11).fst.9, V.str (statF l12 n11).fst.10, V.str (statF l12 n11).fst.11, V.str (statF l12 n11).fst.12, V.str (statF l12 n11).fst.13]]) (x9.2 + 1) (x9.2 + 1) (addI IntKind.i64 x9.4 1)) m'13))))))))))))) (
      K (V.tup [V.lst (List.take x9.2 (List.drop 0 x9.1)), V.int IntKind.i64 0]) [])))))))))) ∧ (
  ((fileF l6 id : Option Place) = none) → (
  K (V.tup [V.lst [], V.int IntKind.i64 8]) [])))))) := by kernel_rfl

theorem rn_vc (k : Int) (K : V → List Bk → Prop) : vcF Tryd.prog cfgN (ctOf []) (lpOf []) 44 [.int .i64 k] [] K = (
  br (eqI k 1) (
    K (V.str [99, 111, 110, 115]) []) (
    br (eqI k 2) (
      K (V.str [99, 111, 110, 115, 99, 116, 108]) []) (
      br (eqI k 3) (
        K (V.str [108, 97, 98, 101, 108]) []) (
        br (eqI k 4) (
          K (V.str [116, 101, 120, 116]) []) (
          K (V.str [99, 116, 108]) []))))) := by kernel_rfl

theorem rst_vc (n f : Int) (xs : List (List V)) (id : Int) (K : V → List Bk → Prop) : vcF Tryd.prog cfgN (ctOf [(42, exCon), (43, dirCon), (46, modeCon), (44, nameRCon), (45, tenCon)]) (lpOf []) 22 [.agg [.int .i64 n, .int .i64 f, .lst xs], .int .i64 id] [] K = (
  ∃ l5 : List Window, ((xs : List (List V)) = windowV l5) ∧ (
  (((l5.length : Nat) ≤ 100000)) ∧ (
  (((id : Int) ≤ 9223372036854775807)) ∧ (
  br (notB (exB l5 id)) (
    K (V.tup [V.agg [V.int IntKind.i64 0, V.int IntKind.i64 0, V.int IntKind.i64 0, V.int IntKind.i64 0, V.int IntKind.i64 0, V.int IntKind.i64 0, V.int IntKind.i64 0, V.int IntKind.i64 0, V.int IntKind.i64 0, V.str [], V.str [], V.str [], V.str []], V.int IntKind.i64 8]) []) (
    (((0 : Int) ≤ id)) ∧ (
    br (dirB id) (
      br (eqI id 1) (
        K (V.tup [V.agg [V.int IntKind.i64 4, V.int IntKind.i64 0, V.int IntKind.i64 128, V.int IntKind.i64 0, V.int IntKind.i64 id, V.int IntKind.i64 (modeF id), V.int IntKind.i64 0, V.int IntKind.i64 0, V.int IntKind.i64 0, V.str [47], V.str [], V.str [], V.str []], V.int IntKind.i64 0]) []) (
        br (eqI id 2) (
          K (V.tup [V.agg [V.int IntKind.i64 4, V.int IntKind.i64 0, V.int IntKind.i64 128, V.int IntKind.i64 0, V.int IntKind.i64 id, V.int IntKind.i64 (modeF id), V.int IntKind.i64 0, V.int IntKind.i64 0, V.int IntKind.i64 0, V.str [102, 111, 99, 117, 115], V.str [], V.str [], V.str []], V.int IntKind.i64 0]) []) (
          br (dirB id) (
            (((-9223372036854775808 : Int) ≤ quoI IntKind.i64 id 16)) ∧ (
            (((quoI IntKind.i64 id 16 : Int) ≤ 9223372036854775807)) ∧ (
            K (V.tup [V.agg [V.int IntKind.i64 4, V.int IntKind.i64 0, V.int IntKind.i64 128, V.int IntKind.i64 0, V.int IntKind.i64 id, V.int IntKind.i64 (modeF id), V.int IntKind.i64 0, V.int IntKind.i64 0, V.int IntKind.i64 0, V.str (textN 10 (quoI IntKind.i64 id 16)), V.str [], V.str [], V.str []], V.int IntKind.i64 0]) []))) (
            K (V.tup [V.agg [V.int IntKind.i64 4, V.int IntKind.i64 0, V.int IntKind.i64 128, V.int IntKind.i64 0, V.int IntKind.i64 id, V.int IntKind.i64 (modeF id), V.int IntKind.i64 0, V.int IntKind.i64 0, V.int IntKind.i64 0, V.str (nameK (id.tmod 16)), V.str [], V.str [], V.str []], V.int IntKind.i64 0]) [])))) (
      br (eqI id 1) (
        K (V.tup [V.agg [V.int IntKind.i64 4, V.int IntKind.i64 0, V.int IntKind.i64 0, V.int IntKind.i64 0, V.int IntKind.i64 id, V.int IntKind.i64 (modeF id), V.int IntKind.i64 0, V.int IntKind.i64 0, V.int IntKind.i64 0, V.str [47], V.str [], V.str [], V.str []], V.int IntKind.i64 0]) []) (
        br (eqI id 2) (
          K (V.tup [V.agg [V.int IntKind.i64 4, V.int IntKind.i64 0, V.int IntKind.i64 0, V.int IntKind.i64 0, V.int IntKind.i64 id, V.int IntKind.i64 (modeF id), V.int IntKind.i64 0, V.int IntKind.i64 0, V.int IntKind.i64 0, V.str [102, 111, 99, 117, 115], V.str [], V.str [], V.str []], V.int IntKind.i64 0]) []) (
          br (dirB id) (
            (((-9223372036854775808 : Int) ≤ quoI IntKind.i64 id 16)) ∧ (
            (((quoI IntKind.i64 id 16 : Int) ≤ 9223372036854775807)) ∧ (
            K (V.tup [V.agg [V.int IntKind.i64 4, V.int IntKind.i64 0, V.int IntKind.i64 0, V.int IntKind.i64 0, V.int IntKind.i64 id, V.int IntKind.i64 (modeF id), V.int IntKind.i64 0, V.int IntKind.i64 0, V.int IntKind.i64 0, V.str (textN 10 (quoI IntKind.i64 id 16)), V.str [], V.str [], V.str []], V.int IntKind.i64 0]) []))) (
            K (V.tup [V.agg [V.int IntKind.i64 4, V.int IntKind.i64 0, V.int IntKind.i64 0, V.int IntKind.i64 0, V.int IntKind.i64 id, V.int IntKind.i64 (modeF id), V.int IntKind.i64 0, V.int IntKind.i64 0, V.int IntKind.i64 0, V.str (nameK (id.tmod 16)), V.str [], V.str [], V.str []], V.int IntKind.i64 0]) [])))))))))) := by kernel_rfl

def rwk_vc_3 (n f : Int) (xs : List (List V)) (id : Int) (nm : List UInt8) (I : rwkC → rwkX → rwkX → Nat → Prop) (K : V → List Bk → Prop) (m9 : Nat) (x8 : (rwkL I).X) : Prop :=
  (
                                        ((rwkC.mk id nm n f xs : (rwkL I).C) = rwkC.mk id nm n f xs) ∧ (
                                        ∃ m'12 : Nat, (((m'12 : Nat) < m9)) ∧ (
                                        I (rwkC.mk id nm n f xs) (rwkX.mk 0) (rwkX.mk (addI IntKind.i64 x8.1 1)) m'12)))
def rwk_vc_2 (n f : Int) (xs : List (List V)) (id : Int) (nm : List UInt8) (I : rwkC → rwkX → rwkX → Nat → Prop) (K : V → List Bk → Prop) : Prop :=
  (
                                (∃ m8 : Nat, (((m8 : Nat) < 18446744073709551616)) ∧ (
                                I (rwkC.mk id nm n f xs) (rwkX.mk 0) (rwkX.mk 0) m8)) ∧ (
                                ∀ x8 : (rwkL I).X, ∀ m9 : Nat, (I (rwkC.mk id nm n f xs) (rwkX.mk 0) x8 m9) → (
                                br (ltI x8.1 (lenL xs)) (
                                  br (eqI id 1) (
                                    need (andB (leI 0 x8.1) (ltI x8.1 (lenL xs))) (
                                    need (okRow xs x8.1.toNat 8) (
                                    ∃ b10 : Bool, ((sub (rowAt xs x8.1) 7 1 : Option (List V)) = some [V.bool b10]) ∧ (
                                    br (notB b10) (
                                      need (andB (leI 0 x8.1) (ltI x8.1 (lenL xs))) (
                                      need (okRow xs x8.1.toNat 8) (
                                      ∃ n11 : Int, ((sub (rowAt xs x8.1) 0 1 : Option (List V)) = some [V.int IntKind.i64 n11]) ∧ (
                                      (((-9223372036854775808 : Int) ≤ n11)) ∧ (
                                      (((n11 : Int) ≤ 9223372036854775807)) ∧ (
                                      br (eqS (textN 10 n11) nm) (
                                        need (andB (leI 0 x8.1) (ltI x8.1 (lenL xs))) (
                                        need (okRow xs x8.1.toNat 8) (
                                        ∃ n12 : Int, ((sub (rowAt xs x8.1) 0 1 : Option (List V)) = some [V.int IntKind.i64 n12]) ∧ (
                                        K (V.tup [V.int IntKind.i64 (mulI IntKind.i64 16 n12), V.int IntKind.i64 0]) [])))) (rwk_vc_3 n f xs id nm I K m9 x8))))))) (rwk_vc_3 n f xs id nm I K m9 x8))))) (
                                    K (V.tup [V.int IntKind.i64 0, V.int IntKind.i64 8]) [])) (
                                  K (V.tup [V.int IntKind.i64 0, V.int IntKind.i64 8]) []))))
def rwk_vc_1 (n f : Int) (xs : List (List V)) (id : Int) (nm : List UInt8) (I : rwkC → rwkX → rwkX → Nat → Prop) (K : V → List Bk → Prop) : Prop :=
  (
            br (ltI 1 id) (
              br (eqS [99, 111, 110, 115] nm) (
                K (V.tup [V.int IntKind.i64 (addI IntKind.i64 id 1), V.int IntKind.i64 0]) []) (
                br (ltI 1 id) (
                  br (eqS [99, 111, 110, 115, 99, 116, 108] nm) (
                    K (V.tup [V.int IntKind.i64 (addI IntKind.i64 id 2), V.int IntKind.i64 0]) []) (
                    br (ltI 1 id) (
                      br (eqS [108, 97, 98, 101, 108] nm) (
                        K (V.tup [V.int IntKind.i64 (addI IntKind.i64 id 3), V.int IntKind.i64 0]) []) (
                        br (ltI 1 id) (
                          br (eqS [116, 101, 120, 116] nm) (
                            K (V.tup [V.int IntKind.i64 (addI IntKind.i64 id 4), V.int IntKind.i64 0]) []) (
                            br (ltI 1 id) (
                              br (eqS [99, 116, 108] nm) (
                                K (V.tup [V.int IntKind.i64 (addI IntKind.i64 id 5), V.int IntKind.i64 0]) []) (rwk_vc_2 n f xs id nm I K)) (rwk_vc_2 n f xs id nm I K))) (rwk_vc_2 n f xs id nm I K))) (rwk_vc_2 n f xs id nm I K))) (rwk_vc_2 n f xs id nm I K))) (rwk_vc_2 n f xs id nm I K))
theorem rwk_vc (n f : Int) (xs : List (List V)) (id : Int) (nm : List UInt8) (I : rwkC → rwkX → rwkX → Nat → Prop) (K : V → List Bk → Prop) : vcF Tryd.prog cfgN (ctOf [(42, exCon), (43, dirCon), (44, nameRCon), (45, tenCon)]) (lpOf [(10, unrL 6), (15, rwkL I)]) 20 [.agg [.int .i64 n, .int .i64 f, .lst xs], .int .i64 id, .str nm] [] K = (
  ∃ l7 : List Window, ((xs : List (List V)) = windowV l7) ∧ (
  (((l7.length : Nat) ≤ 100000)) ∧ (
  (((id : Int) ≤ 9223372036854775807)) ∧ (
  br (notB (exB l7 id)) (
    K (V.tup [V.int IntKind.i64 0, V.int IntKind.i64 8]) []) (
    br (notB (dirB id)) (
      K (V.tup [V.int IntKind.i64 0, V.int IntKind.i64 9]) []) (
      br (eqS nm [46, 46]) (
        K (V.tup [V.int IntKind.i64 1, V.int IntKind.i64 0]) []) (
        br (eqI id 1) (
          br (eqS nm [102, 111, 99, 117, 115]) (
            K (V.tup [V.int IntKind.i64 2, V.int IntKind.i64 0]) []) (rwk_vc_1 n f xs id nm I K)) (rwk_vc_1 n f xs id nm I K)))))))) := by kernel_rfl

def rl_vc_2 (n f : Int) (xs : List (List V)) (id : Int) (I : rlaC → rlaX → rlaX → Nat → Prop) (J : rlbC → rlbX → rlbX → Nat → Prop) (L : rlcC → rlcX → rlcX → Nat → Prop) (K : V → List Bk → Prop) (x11 : (rlbL J).X) : Prop :=
  (
                (∃ m13 : Nat, (((m13 : Nat) < 18446744073709551616)) ∧ (
                L (rlcC.mk n f xs (List.take x11.2 (List.drop 0 x11.1)) (Int.ofNat x11.2)) (rlcX.mk [] 0 0 0) (rlcX.mk [] 0 0 0) m13)) ∧ (
                ∀ x13 : (rlcL L).X, ∀ m14 : Nat, (L (rlcC.mk n f xs (List.take x11.2 (List.drop 0 x11.1)) (Int.ofNat x11.2)) (rlcX.mk [] 0 0 0) x13 m14) → (
                br (ltI x13.4 (Int.ofNat x11.2)) (
                  need (andB (leI 0 x13.4) (ltI x13.4 (lenL (List.take x11.2 (List.drop 0 x11.1))))) (
                  need (okRow (List.take x11.2 (List.drop 0 x11.1)) x13.4.toNat 1) (
                  ∃ n15 : Int, ((sub (rowAt (List.take x11.2 (List.drop 0 x11.1)) x13.4) 0 1 : Option (List V)) = some [V.int IntKind.i64 n15]) ∧ (
                  ∃ l16 : List Window, ((xs : List (List V)) = windowV l16) ∧ (
                  (((l16.length : Nat) ≤ 1000)) ∧ (
                  (((n15 : Int) ≤ 9223372036854775807)) ∧ (
                  need (headOkP 13 x13.1) (
                  br (leN (x13.2 + 1) x13.3) (
                    ((rlcC.mk n f xs (List.take x11.2 (List.drop 0 x11.1)) (Int.ofNat x11.2) : (rlcL L).C) = rlcC.mk n f xs (List.take x11.2 (List.drop 0 x11.1)) (Int.ofNat x11.2)) ∧ (
                    ∃ m'17 : Nat, (((m'17 : Nat) < m14)) ∧ (
                    L (rlcC.mk n f xs (List.take x11.2 (List.drop 0 x11.1)) (Int.ofNat x11.2)) (rlcX.mk [] 0 0 0) (rlcX.mk (List.take (0 + x13.2) x13.1 ++ [[V.int IntKind.i64 (statF l16 n15).fst.1, V.int IntKind.i64 (statF l16 n15).fst.2, V.int IntKind.i64 (statF l16 n15).fst.3, V.int IntKind.i64 (statF l16 n15).fst.4, V.int IntKind.i64 (statF l16 n15).fst.5, V.int IntKind.i64 (statF l16 n15).fst.6, V.int IntKind.i64 (statF l16 n15).fst.7, V.int IntKind.i64 (statF l16 n15).fst.8, V.int IntKind.i64 (statF l16 n15).fst.9, V.str (statF l16 n15).fst.10, V.str (statF l16 n15).fst.11, V.str (statF l16 n15).fst.12, V.str (statF l16 n15).fst.13]] ++ List.drop (0 + x13.2 + 1) x13.1) (x13.2 + 1) x13.3 (addI IntKind.i64 x13.4 1)) m'17))) (
                    need (eqN (0 + x13.2) x13.1.length) (
                    need (leN ((x13.2 + 1) * 136) 140737488355328) (
                    ((rlcC.mk n f xs (List.take x11.2 (List.drop 0 x11.1)) (Int.ofNat x11.2) : (rlcL L).C) = rlcC.mk n f xs (List.take x11.2 (List.drop 0 x11.1)) (Int.ofNat x11.2)) ∧ (
                    ∃ m'17 : Nat, (((m'17 : Nat) < m14)) ∧ (
                    L (rlcC.mk n f xs (List.take x11.2 (List.drop 0 x11.1)) (Int.ofNat x11.2)) (rlcX.mk [] 0 0 0) (rlcX.mk (List.drop 0 x13.1 ++ [[V.int IntKind.i64 (statF l16 n15).fst.1, V.int IntKind.i64 (statF l16 n15).fst.2, V.int IntKind.i64 (statF l16 n15).fst.3, V.int IntKind.i64 (statF l16 n15).fst.4, V.int IntKind.i64 (statF l16 n15).fst.5, V.int IntKind.i64 (statF l16 n15).fst.6, V.int IntKind.i64 (statF l16 n15).fst.7, V.int IntKind.i64 (statF l16 n15).fst.8, V.int IntKind.i64 (statF l16 n15).fst.9, V.str (statF l16 n15).fst.10, V.str (statF l16 n15).fst.11, V.str (statF l16 n15).fst.12, V.str (statF l16 n15).fst.13]]) (x13.2 + 1) (x13.2 + 1) (addI IntKind.i64 x13.4 1)) m'17))))))))))))) (
                  K (V.tup [V.lst (List.take x13.2 (List.drop 0 x13.1)), V.int IntKind.i64 0]) []))))
def rl_vc_1 (n f : Int) (xs : List (List V)) (id : Int) (I : rlaC → rlaX → rlaX → Nat → Prop) (J : rlbC → rlbX → rlbX → Nat → Prop) (L : rlcC → rlcX → rlcX → Nat → Prop) (K : V → List Bk → Prop) (x9 : (rlaL I).X) : Prop :=
  (
            (∃ m11 : Nat, (((m11 : Nat) < 18446744073709551616)) ∧ (
            J (rlbC.mk id n f xs) (rlbX.mk x9.1 x9.2 x9.3 1) (rlbX.mk x9.1 x9.2 x9.3 1) m11)) ∧ (
            ∀ x11 : (rlbL J).X, ∀ m12 : Nat, (J (rlbC.mk id n f xs) (rlbX.mk x9.1 x9.2 x9.3 1) x11 m12) → (
            br (leI x11.4 5) (
              br (ltI 1 id) (
                need (headOkP 1 x11.1) (
                br (leN (x11.2 + 1) x11.3) (
                  ((rlbC.mk id n f xs : (rlbL J).C) = rlbC.mk id n f xs) ∧ (
                  ∃ m'13 : Nat, (((m'13 : Nat) < m12)) ∧ (
                  J (rlbC.mk id n f xs) (rlbX.mk x9.1 x9.2 x9.3 1) (rlbX.mk (List.take (0 + x11.2) x11.1 ++ [[V.int IntKind.i64 (addI IntKind.i64 id x11.4)]] ++ List.drop (0 + x11.2 + 1) x11.1) (x11.2 + 1) x11.3 (addI IntKind.i64 x11.4 1)) m'13))) (
                  need (eqN (0 + x11.2) x11.1.length) (
                  need (leN ((x11.2 + 1) * 8) 140737488355328) (
                  ((rlbC.mk id n f xs : (rlbL J).C) = rlbC.mk id n f xs) ∧ (
                  ∃ m'13 : Nat, (((m'13 : Nat) < m12)) ∧ (
                  J (rlbC.mk id n f xs) (rlbX.mk x9.1 x9.2 x9.3 1) (rlbX.mk (List.drop 0 x11.1 ++ [[V.int IntKind.i64 (addI IntKind.i64 id x11.4)]]) (x11.2 + 1) (x11.2 + 1) (addI IntKind.i64 x11.4 1)) m'13))))))) (rl_vc_2 n f xs id I J L K x11)) (rl_vc_2 n f xs id I J L K x11))))
theorem rl_vc (n f : Int) (xs : List (List V)) (id : Int) (I : rlaC → rlaX → rlaX → Nat → Prop) (J : rlbC → rlbX → rlbX → Nat → Prop) (L : rlcC → rlcX → rlcX → Nat → Prop) (K : V → List Bk → Prop) : vcF Tryd.prog cfgN (ctOf [(42, exCon), (43, dirCon), (22, statCon)]) (lpOf [(9, rlaL I), (14, rlbL J), (19, rlcL L)]) 24 [.agg [.int .i64 n, .int .i64 f, .lst xs], .int .i64 id] [] K = (
  ∃ l8 : List Window, ((xs : List (List V)) = windowV l8) ∧ (
  (((l8.length : Nat) ≤ 100000)) ∧ (
  (((id : Int) ≤ 9223372036854775807)) ∧ (
  br (notB (exB l8 id)) (
    K (V.tup [V.lst [], V.int IntKind.i64 8]) []) (
    br (notB (dirB id)) (
      K (V.tup [V.lst [], V.int IntKind.i64 9]) []) (
      br (eqI id 1) (
        (∃ m9 : Nat, (((m9 : Nat) < 18446744073709551616)) ∧ (
        I (rlaC.mk id n f xs) (rlaX.mk [[V.int IntKind.i64 2]] 1 1 0) (rlaX.mk [[V.int IntKind.i64 2]] 1 1 0) m9)) ∧ (
        ∀ x9 : (rlaL I).X, ∀ m10 : Nat, (I (rlaC.mk id n f xs) (rlaX.mk [[V.int IntKind.i64 2]] 1 1 0) x9 m10) → (
        br (ltI x9.4 (lenL xs)) (
          br (eqI id 1) (
            need (andB (leI 0 x9.4) (ltI x9.4 (lenL xs))) (
            need (okRow xs x9.4.toNat 8) (
            ∃ b11 : Bool, ((sub (rowAt xs x9.4) 7 1 : Option (List V)) = some [V.bool b11]) ∧ (
            br (notB b11) (
              need (andB (leI 0 x9.4) (ltI x9.4 (lenL xs))) (
              need (okRow xs x9.4.toNat 8) (
              ∃ n12 : Int, ((sub (rowAt xs x9.4) 0 1 : Option (List V)) = some [V.int IntKind.i64 n12]) ∧ (
              need (headOkP 1 x9.1) (
              br (leN (x9.2 + 1) x9.3) (
                ((rlaC.mk id n f xs : (rlaL I).C) = rlaC.mk id n f xs) ∧ (
                ∃ m'13 : Nat, (((m'13 : Nat) < m10)) ∧ (
                I (rlaC.mk id n f xs) (rlaX.mk [[V.int IntKind.i64 2]] 1 1 0) (rlaX.mk (List.take (0 + x9.2) x9.1 ++ [[V.int IntKind.i64 (mulI IntKind.i64 16 n12)]] ++ List.drop (0 + x9.2 + 1) x9.1) (x9.2 + 1) x9.3 (addI IntKind.i64 x9.4 1)) m'13))) (
                need (eqN (0 + x9.2) x9.1.length) (
                need (leN ((x9.2 + 1) * 8) 140737488355328) (
                ((rlaC.mk id n f xs : (rlaL I).C) = rlaC.mk id n f xs) ∧ (
                ∃ m'13 : Nat, (((m'13 : Nat) < m10)) ∧ (
                I (rlaC.mk id n f xs) (rlaX.mk [[V.int IntKind.i64 2]] 1 1 0) (rlaX.mk (List.drop 0 x9.1 ++ [[V.int IntKind.i64 (mulI IntKind.i64 16 n12)]]) (x9.2 + 1) (x9.2 + 1) (addI IntKind.i64 x9.4 1)) m'13)))))))))) (
              ((rlaC.mk id n f xs : (rlaL I).C) = rlaC.mk id n f xs) ∧ (
              ∃ m'12 : Nat, (((m'12 : Nat) < m10)) ∧ (
              I (rlaC.mk id n f xs) (rlaX.mk [[V.int IntKind.i64 2]] 1 1 0) (rlaX.mk x9.1 x9.2 x9.3 (addI IntKind.i64 x9.4 1)) m'12))))))) (rl_vc_1 n f xs id I J L K x9)) (rl_vc_1 n f xs id I J L K x9)))) (
        (∃ m9 : Nat, (((m9 : Nat) < 18446744073709551616)) ∧ (
        I (rlaC.mk id n f xs) (rlaX.mk [] 0 0 0) (rlaX.mk [] 0 0 0) m9)) ∧ (
        ∀ x9 : (rlaL I).X, ∀ m10 : Nat, (I (rlaC.mk id n f xs) (rlaX.mk [] 0 0 0) x9 m10) → (
        br (ltI x9.4 (lenL xs)) (
          br (eqI id 1) (
            need (andB (leI 0 x9.4) (ltI x9.4 (lenL xs))) (
            need (okRow xs x9.4.toNat 8) (
            ∃ b11 : Bool, ((sub (rowAt xs x9.4) 7 1 : Option (List V)) = some [V.bool b11]) ∧ (
            br (notB b11) (
              need (andB (leI 0 x9.4) (ltI x9.4 (lenL xs))) (
              need (okRow xs x9.4.toNat 8) (
              ∃ n12 : Int, ((sub (rowAt xs x9.4) 0 1 : Option (List V)) = some [V.int IntKind.i64 n12]) ∧ (
              need (headOkP 1 x9.1) (
              br (leN (x9.2 + 1) x9.3) (
                ((rlaC.mk id n f xs : (rlaL I).C) = rlaC.mk id n f xs) ∧ (
                ∃ m'13 : Nat, (((m'13 : Nat) < m10)) ∧ (
                I (rlaC.mk id n f xs) (rlaX.mk [] 0 0 0) (rlaX.mk (List.take (0 + x9.2) x9.1 ++ [[V.int IntKind.i64 (mulI IntKind.i64 16 n12)]] ++ List.drop (0 + x9.2 + 1) x9.1) (x9.2 + 1) x9.3 (addI IntKind.i64 x9.4 1)) m'13))) (
                need (eqN (0 + x9.2) x9.1.length) (
                need (leN ((x9.2 + 1) * 8) 140737488355328) (
                ((rlaC.mk id n f xs : (rlaL I).C) = rlaC.mk id n f xs) ∧ (
                ∃ m'13 : Nat, (((m'13 : Nat) < m10)) ∧ (
                I (rlaC.mk id n f xs) (rlaX.mk [] 0 0 0) (rlaX.mk (List.drop 0 x9.1 ++ [[V.int IntKind.i64 (mulI IntKind.i64 16 n12)]]) (x9.2 + 1) (x9.2 + 1) (addI IntKind.i64 x9.4 1)) m'13)))))))))) (
              ((rlaC.mk id n f xs : (rlaL I).C) = rlaC.mk id n f xs) ∧ (
              ∃ m'12 : Nat, (((m'12 : Nat) < m10)) ∧ (
              I (rlaC.mk id n f xs) (rlaX.mk [] 0 0 0) (rlaX.mk x9.1 x9.2 x9.3 (addI IntKind.i64 x9.4 1)) m'12))))))) (rl_vc_1 n f xs id I J L K x9)) (rl_vc_1 n f xs id I J L K x9)))))))))) := by kernel_rfl

theorem ds_vc (xs ys : List (List V)) (I : dsC → dsX → dsX → Nat → Prop) (K : V → List Bk → Prop) : vcF Tryd.prog cfgN (ctOf []) (lpOf [(4, dsL I)]) 25 [.lst xs, .lst ys] [] K = (
  br (notB (eqI (lenL xs) (lenL ys))) (
    K (V.bool false) []) (
    (∃ m4 : Nat, (((m4 : Nat) < 18446744073709551616)) ∧ (
    I (dsC.mk xs ys (lenL xs)) (dsX.mk 0) (dsX.mk 0) m4)) ∧ (
    ∀ x4 : (dsL I).X, ∀ m5 : Nat, (I (dsC.mk xs ys (lenL xs)) (dsX.mk 0) x4 m5) → (
    br (ltI x4.1 (lenL xs)) (
      need (andB (leI 0 x4.1) (ltI x4.1 (lenL xs))) (
      need (okRow xs x4.1.toNat 13) (
      ∃ n6 : Int, ∃ n7 : Int, ∃ n8 : Int, ∃ n9 : Int, ∃ n10 : Int, ∃ n11 : Int, ∃ n12 : Int, ∃ n13 : Int, ∃ n14 : Int, ∃ s15 : List UInt8, ∃ s16 : List UInt8, ∃ s17 : List UInt8, ∃ s18 : List UInt8, ((sub (rowAt xs x4.1) 0 13 : Option (List V)) = some [V.int IntKind.i64 n6, V.int IntKind.i64 n7, V.int IntKind.i64 n8, V.int IntKind.i64 n9, V.int IntKind.i64 n10, V.int IntKind.i64 n11, V.int IntKind.i64 n12, V.int IntKind.i64 n13, V.int IntKind.i64 n14, V.str s15, V.str s16, V.str s17, V.str s18]) ∧ (
      need (andB (leI 0 x4.1) (ltI x4.1 (lenL ys))) (
      need (okRow ys x4.1.toNat 13) (
      ∃ n19 : Int, ∃ n20 : Int, ∃ n21 : Int, ∃ n22 : Int, ∃ n23 : Int, ∃ n24 : Int, ∃ n25 : Int, ∃ n26 : Int, ∃ n27 : Int, ∃ s28 : List UInt8, ∃ s29 : List UInt8, ∃ s30 : List UInt8, ∃ s31 : List UInt8, ((sub (rowAt ys x4.1) 0 13 : Option (List V)) = some [V.int IntKind.i64 n19, V.int IntKind.i64 n20, V.int IntKind.i64 n21, V.int IntKind.i64 n22, V.int IntKind.i64 n23, V.int IntKind.i64 n24, V.int IntKind.i64 n25, V.int IntKind.i64 n26, V.int IntKind.i64 n27, V.str s28, V.str s29, V.str s30, V.str s31]) ∧ (
      br (!(decide (n6 = n19) && (decide (n7 = n20) && (decide (n8 = n21) && (decide (n9 = n22) && (decide (n10 = n23) && true)) && (decide (n11 = n24) && (decide (n12 = n25) && (decide (n13 = n26) && (decide (n14 = n27) && (strEq s15 s28 && (strEq s16 s29 && (strEq s17 s30 && (strEq s18 s31 && true)))))))))))) (
        K (V.bool false) []) (
        ((dsC.mk xs ys (lenL xs) : (dsL I).C) = dsC.mk xs ys (lenL xs)) ∧ (
        ∃ m'32 : Nat, (((m'32 : Nat) < m5)) ∧ (
        I (dsC.mk xs ys (lenL xs)) (dsX.mk 0) (dsX.mk (addI IntKind.i64 x4.1 1)) m'32)))))))))) (
      K (V.bool true) []))))) := by kernel_rfl

theorem le_vc (n f : Int) (xs : List (List V)) (id : Int) (nm : List UInt8) (K : V → List Bk → Prop) : vcF Tryd.prog cfgN (ctOf [(8, smCon), (11, rightCon), (9, okCon), (19, walkCon), (20, walkCon), (21, statCon), (22, statCon), (23, listCon), (24, listCon), (25, dirsCon)]) (lpOf []) 7 [.agg [.int .i64 n, .int .i64 f, .lst xs], .int .i64 id, .str nm] [] K = (
  ∃ l6 : List Window, ((xs : List (List V)) = windowV l6) ∧ (
  ∀ b7 : Bool, (smT l6 b7) → (
  br (notB b7) (
    K (V.bool true) []) (
    br (ltI 2000 (lenS nm)) (
      K (V.bool true) []) (
      ∃ l8 : List Window, ((xs : List (List V)) = windowV l8) ∧ (
      (smallL l8) ∧ (
      br (notB (rightW (Windows.mk n f l8))) (
        K (V.bool true) []) (
        ∃ l9 : List Window, ((xs : List (List V)) = windowV l9) ∧ (
        ((rightW (Windows.mk n f l9) : Bool) = true) ∧ (
        (((id : Int) ≤ 9223372036854775807)) ∧ (
        ∃ l10 : List Window, ((xs : List (List V)) = windowV l10) ∧ (
        ((rightW (Windows.mk n f l10) : Bool) = true) ∧ (
        (((id : Int) ≤ 9223372036854775807)) ∧ (
        br (notB (eqI (walkF l9 id nm).1 (walkF l10 id nm).1)) (
          K (V.bool false) []) (
          br (notB (eqI (walkF l9 id nm).2 (walkF l10 id nm).2)) (
            K (V.bool false) []) (
            ∃ l11 : List Window, ((xs : List (List V)) = windowV l11) ∧ (
            (((l11.length : Nat) ≤ 1000)) ∧ (
            (((id : Int) ≤ 9223372036854775807)) ∧ (
            ∃ l12 : List Window, ((xs : List (List V)) = windowV l12) ∧ (
            (((l12.length : Nat) ≤ 1000)) ∧ (
            (((id : Int) ≤ 9223372036854775807)) ∧ (
            br (!(decide ((statF l11 id).fst.type = (statF l12 id).fst.type) && (decide ((statF l11 id).fst.dev = (statF l12 id).fst.dev) && (decide ((statF l11 id).fst.qt = (statF l12 id).fst.qt) && (decide ((statF l11 id).fst.qv = (statF l12 id).fst.qv) && (decide ((statF l11 id).fst.qp = (statF l12 id).fst.qp) && true)) && (decide ((statF l11 id).fst.mode = (statF l12 id).fst.mode) && (decide ((statF l11 id).fst.atime = (statF l12 id).fst.atime) && (decide ((statF l11 id).fst.mtime = (statF l12 id).fst.mtime) && (decide ((statF l11 id).fst.length = (statF l12 id).fst.length) && (strEq (statF l11 id).fst.10 (statF l12 id).fst.10 && (strEq (statF l11 id).fst.11 (statF l12 id).fst.11 && (strEq (statF l11 id).fst.12 (statF l12 id).fst.12 && (strEq (statF l11 id).fst.13 (statF l12 id).fst.13 && true)))))))))))) (
              K (V.bool false) []) (
              br (notB (eqI (statF l11 id).2 (statF l12 id).2)) (
                K (V.bool false) []) (
                ∃ l13 : List Window, ((xs : List (List V)) = windowV l13) ∧ (
                ((rightW (Windows.mk n f l13) : Bool) = true) ∧ (
                (((id : Int) ≤ 9223372036854775807)) ∧ (
                ∃ l14 : List Window, ((xs : List (List V)) = windowV l14) ∧ (
                ((rightW (Windows.mk n f l14) : Bool) = true) ∧ (
                (((id : Int) ≤ 9223372036854775807)) ∧ (
                br (eqI (listF l13 id).2 (listF l14 id).2) (
                  ∃ l15 : List Dir, ((dirV (listF l13 id).1 : List (List V)) = dirV l15) ∧ (
                  ((dirV (listF l14 id).1 : List (List V)) = dirV l15) ∧ (
                  (((l15.length : Nat) ≤ 100000)) ∧ (
                  K (V.bool true) [])))) (
                  K (V.bool false) []))))))))))))))))))))))))))))))) := by kernel_rfl

end Go.Proofs.YtdbbpibfejchfaaDoor
namespace Go.Proofs.YtdbbpibfejchfaaDoor
open Go.RowKit
set_option maxRecDepth 100000
set_option linter.unusedVariables false
set_option linter.unusedSimpArgs false
theorem right_smallI {w : Windows} (h : RightW w) : smallI w.l := by
  have := h.len
  have := h.next1
  exact ⟨by omega, fun x hx => by have := h.ids x hx; omega⟩
theorem rootF_step {l : List Window} {k : Nat} {f : Window} (h : l[k]? = some f) : rootF (l.take (k + 1)) = if f.gone = true then rootF (l.take k) else rootF (l.take k) ++ [16 * f.id] := by
  obtain ⟨hk, rfl⟩ := List.getElem?_eq_some_iff.1 h
  unfold rootF
  rw [List.take_succ_eq_append_getElem hk, List.filter_append]
  cases hg : (l[k]).gone <;> simp [hg]
theorem rootF_len (l : List Window) : (rootF l).length ≤ l.length + 1 := by
  unfold rootF
  simp only [List.length_cons, List.length_map]
  have := List.length_filter_le (fun x : Window => !x.gone) l
  omega
theorem root_bound {l : List Window} (h : smallI l) : ∀ c ∈ rootF l, 1 < c ∧ c ≤ 16777216 := by
  intro c hc
  unfold rootF at hc
  rcases List.mem_cons.1 hc with rfl | hc
  · omega
  · obtain ⟨x, hx, rfl⟩ := List.mem_map.1 hc
    have := h.2 x (List.mem_filter.1 hx).1
    omega
theorem place_id {l : List Window} {id : Int} {p : Place} (hs : smallI l) (h : fileF l id = some p) : p.id = id ∧ 0 < id ∧ id ≤ 16777231 := by
  rcases file_cases h with ⟨h1, rfl⟩ | ⟨h1, rfl⟩ | ⟨i, x, h1, h2, h3, h4, h5, h6, h7, h8, h9, _⟩
  · exact ⟨h1.symm, by omega, by omega⟩
  · exact ⟨h1.symm, by omega, by omega⟩
  · have := hs.2 x (List.mem_of_getElem? h3)
    exact ⟨h9, by omega, by omega⟩
theorem child_bound {l : List Window} {p : Place} (h : smallI l) (hp : p.id ≤ 1000000000) : (∀ c ∈ childF l p, c ≤ 1000000005) ∧ (childF l p).length ≤ 1001 := by
  unfold childF
  split
  · refine ⟨fun c hc => ?_, by simp⟩
    simp only [List.mem_cons, List.not_mem_nil, or_false] at hc
    omega
  · have := rootF_len l
    exact ⟨fun c hc => by have := root_bound h c hc; omega, by have := h.1; omega⟩
theorem ch_con {n : Nat} (hn : 1 ≤ n) : ConOk (evalF Tryd.prog cfgN n) 41 childCon := by
  intro vs bs K h
  unfold childCon at h
  split at h
  · rename_i nx f0 xs a nm b w d
    obtain ⟨l, rfl, hs, h0, h1, hK⟩ := h
    have hlen := hs.1
    refine run_of (lp := lpOf [(4, unrL 6), (10, chL fun _ _ x m => ∃ k : Nat, x = ⟨intV (rootF (l.take k)), (rootF (l.take k)).length, (rootF (l.take k)).length, (k : Int)⟩ ∧ k + m = l.length)]) (by omega) (fun k hk => noCt_ok _) ?_
    rw [ch_vc]
    unfold childF at hK
    dsimp only at hK
    rw [br_iff]; refine ⟨fun g => ?_, fun g => ?_⟩
    · rw [if_pos (by simpa only [br_iff, need_iff, andB_t, andB_f, orB_t, orB_f, notB_t, notB_f, leI_t, leI_f, ltI_t, ltI_f, eqI_t, eqI_f, leN_t, leN_f, eqN_t, eqN_f, eqS_t, eqS_f, eqB_t, eqB_f, catOk_t, leC_t] using g)] at hK
      rw [addI_i64 (b := 1) (by omega) (by omega), addI_i64 (b := 2) (by omega) (by omega), addI_i64 (b := 3) (by omega) (by omega), addI_i64 (b := 4) (by omega) (by omega), addI_i64 (b := 5) (by omega) (by omega)]
      exact hK
    · rw [if_neg (by simp only [br_iff, need_iff, andB_t, andB_f, orB_t, orB_f, notB_t, notB_f, leI_t, leI_f, ltI_t, ltI_f, eqI_t, eqI_f, leN_t, leN_f, eqN_t, eqN_f, eqS_t, eqS_f, eqB_t, eqB_f, catOk_t, leC_t] at g; omega)] at hK
      simp only [windowV_lenL]
      refine ⟨⟨l.length, by omega, 0, rfl, by omega⟩, ?_⟩
      rintro _ m ⟨k, rfl, hk⟩
      dsimp only
      have hr := rootF_len (l.take k)
      rw [List.length_take] at hr
      rw [br_iff]; refine ⟨fun hlt => ?_, fun hge => ?_⟩
      · have hlt : k < l.length := by simp only [br_iff, need_iff, andB_t, andB_f, orB_t, orB_f, notB_t, notB_f, leI_t, leI_f, ltI_t, ltI_f, eqI_t, eqI_f, leN_t, leN_f, eqN_t, eqN_f, eqS_t, eqS_f, eqB_t, eqB_f, catOk_t, leC_t] at hlt; omega
        have gf : l[k]? = some l[k] := List.getElem?_eq_getElem hlt
        generalize l[k] = f at gf
        have rf := windowV_row gf
        have kf : okRow (windowV l) (Int.toNat (k : Int)) 8 = true := by simpa using windowV_ok (l := l) (i := k) hlt
        have nf : andB (leI 0 (k : Int)) (ltI (k : Int) (l.length : Int)) = true := by simp only [br_iff, need_iff, andB_t, andB_f, orB_t, orB_f, notB_t, notB_f, leI_t, leI_f, ltI_t, ltI_f, eqI_t, eqI_f, leN_t, leN_f, eqN_t, eqN_f, eqS_t, eqS_f, eqB_t, eqB_f, catOk_t, leC_t]; omega
        have hid := hs.2 f (List.mem_of_getElem? gf)
        have hst := rootF_step gf
        have ek : addI .i64 (k : Int) 1 = ((k + 1 : Nat) : Int) := by rw [addI_i64 (by omega) (by omega)]; rfl
        rw [need_iff, need_iff]
        refine ⟨nf, kf, ?_⟩
        try rw [rf]
        repeat apply Exists.intro
        refine ⟨rfl, ?_⟩
        rw [ek, mulI_i64 (by omega) (by omega)]
        rw [br_iff]; refine ⟨fun q => ?_, fun q => ⟨by trivial, m - 1, by omega, k + 1, ?_, by omega⟩⟩
        · simp only [notB, Bool.not_eq_true'] at q
          rw [if_neg (by rw [q]; simp)] at hst
          rw [need_iff]; refine ⟨intV_head _, ?_⟩
          rw [br_iff]; refine ⟨fun w => by simp only [br_iff, need_iff, andB_t, andB_f, orB_t, orB_f, notB_t, notB_f, leI_t, leI_f, ltI_t, ltI_f, eqI_t, eqI_f, leN_t, leN_f, eqN_t, eqN_f, eqS_t, eqS_f, eqB_t, eqB_f, catOk_t, leC_t] at w; omega, fun _ => ?_⟩
          rw [need_iff]; refine ⟨by simp only [br_iff, need_iff, andB_t, andB_f, orB_t, orB_f, notB_t, notB_f, leI_t, leI_f, ltI_t, ltI_f, eqI_t, eqI_f, leN_t, leN_f, eqN_t, eqN_f, eqS_t, eqS_f, eqB_t, eqB_f, catOk_t, leC_t, intV_len]; omega, ?_⟩
          rw [need_iff]; refine ⟨by simp only [br_iff, need_iff, andB_t, andB_f, orB_t, orB_f, notB_t, notB_f, leI_t, leI_f, ltI_t, ltI_f, eqI_t, eqI_f, leN_t, leN_f, eqN_t, eqN_f, eqS_t, eqS_f, eqB_t, eqB_f, catOk_t, leC_t]; omega, by trivial, m - 1, by omega, k + 1, ?_, by omega⟩
          rw [hst, List.length_append, List.length_singleton, List.drop_zero, ← intV_app]
          rfl
        · simp only [notB, Bool.not_eq_false'] at q
          rw [if_pos q] at hst
          rw [hst]
      · have : k = l.length := by simp only [br_iff, need_iff, andB_t, andB_f, orB_t, orB_f, notB_t, notB_f, leI_t, leI_f, ltI_t, ltI_f, eqI_t, eqI_f, leN_t, leN_f, eqN_t, eqN_f, eqS_t, eqS_f, eqB_t, eqB_f, catOk_t, leC_t] at hge; omega
        subst this
        rw [List.take_length, List.drop_zero, intV_all]
        exact hK
  · exact h.elim
theorem st_con {n : Nat} (hn : 5 ≤ n) : ConOk (evalF Tryd.prog cfgN n) 21 statCon := by
  intro vs bs K h
  unfold statCon at h
  split at h
  · rename_i nx f0 xs id
    obtain ⟨l, rfl, hlen, hid, hK⟩ := h
    refine run_of (lp := lpOf []) (by omega) (ct := ctOf [(36, findCon), (37, inlC Tryd.prog cfgN (ctOf []) 37)]) (fun k hk => ctOf_ok (ctOf_cons (fnd_con (by omega)) (ctOf_cons (inl_ok (by omega) (fun _ _ => noCt_ok _)) (ctOf_nil _)))) ?_
    rw [st_vc]
    refine ⟨l, rfl, hlen, hid, fun p hp => ?_, fun hp => ?_⟩
    · have e : statF l id = (statP id p, 0) := by unfold statF; simp only [hp]
      rw [e] at hK
      unfold statP at hK
      dsimp only at hK
      rw [br_iff]; refine ⟨fun g => ?_, fun g => ?_⟩
      · rw [if_pos (by simpa only [br_iff, need_iff, andB_t, andB_f, orB_t, orB_f, notB_t, notB_f, leI_t, leI_f, ltI_t, ltI_f, eqI_t, eqI_f, leN_t, leN_f, eqN_t, eqN_f, eqS_t, eqS_f, eqB_t, eqB_f, catOk_t, leC_t] using g)] at hK; exact hK
      · rw [if_neg (by simp only [br_iff, need_iff, andB_t, andB_f, orB_t, orB_f, notB_t, notB_f, leI_t, leI_f, ltI_t, ltI_f, eqI_t, eqI_f, leN_t, leN_f, eqN_t, eqN_f, eqS_t, eqS_f, eqB_t, eqB_f, catOk_t, leC_t] at g; omega)] at hK; exact hK
    · have e : statF l id = (dirZ, 8) := by unfold statF; simp only [hp]
      rw [e] at hK; exact hK
  · exact h.elim
def nameP (l : List Window) (nm : List UInt8) (k : Int) : Bool := decide (placeN l k = nm)
theorem walk_some {l : List Window} {id : Int} {p : Place} (hp : fileF l id = some p) (nm : List UInt8) : walkF l id nm = if p.mode < 2147483648 then ((0, 9) : Int × Int) else if nm = [46, 46] then ((1, 0) : Int × Int)
    else match (childF l p).find? (nameP l nm) with
      | some k => ((k, 0) : Int × Int)
      | none => ((0, 8) : Int × Int) := by
  unfold walkF nameP
  simp only [hp]
  generalize List.find? _ _ = q
  cases q <;> rfl
theorem wkk_con {n : Nat} (hn : 5 ≤ n) : ConOk (evalF Tryd.prog cfgN n) 19 walkCon := by
  intro vs bs K h
  unfold walkCon at h
  split at h
  · rename_i nx f0 xs id nm
    obtain ⟨l, rfl, hR, hid, hK⟩ := h
    have hs := right_smallI ((rightW_iff _).1 hR)
    have hlen := hs.1
    dsimp only at hs hlen
    let II : wkC → wkX → wkX → Nat → Prop := fun c _ x m => ∃ (cs : List Int) (k : Nat), c.zs = intV cs ∧ x = ⟨(k : Int)⟩ ∧ k + m = cs.length ∧ (cs.drop k).find? (nameP l nm) = cs.find? (nameP l nm)
    refine run_of (lp := lpOf [(9, wkL II)]) (by omega) (ct := ctOf [(36, findCon), (37, inlC Tryd.prog cfgN (ctOf []) 37), (41, childCon)])
      (fun k hk => ctOf_ok (ctOf_cons (fnd_con (by omega)) (ctOf_cons (inl_ok (by omega) (fun _ _ => noCt_ok _)) (ctOf_cons (ch_con (by omega)) (ctOf_nil _))))) ?_
    rw [wk_vc]
    have f : ∀ {r}, walkF l id nm = r → K (.tup [.int .i64 r.1, .int .i64 r.2]) [] := fun h => by subst h; exact hK
    refine ⟨l, rfl, hlen, hid, fun p hp => ?_, fun hp => f (r := (0, 8)) (by unfold walkF; simp only [hp])⟩
    have eF := walk_some hp nm
    rw [br_iff]; refine ⟨fun g => f (r := (0, 9)) (by rw [eF, if_pos (by simpa only [br_iff, need_iff, andB_t, andB_f, orB_t, orB_f, notB_t, notB_f, leI_t, leI_f, ltI_t, ltI_f, eqI_t, eqI_f, leN_t, leN_f, eqN_t, eqN_f, eqS_t, eqS_f, eqB_t, eqB_f, catOk_t, leC_t] using g)]), fun g1 => ?_⟩
    rw [if_neg (by simp only [br_iff, need_iff, andB_t, andB_f, orB_t, orB_f, notB_t, notB_f, leI_t, leI_f, ltI_t, ltI_f, eqI_t, eqI_f, leN_t, leN_f, eqN_t, eqN_f, eqS_t, eqS_f, eqB_t, eqB_f, catOk_t, leC_t] at g1; omega)] at eF
    rw [br_iff]; refine ⟨fun g => f (r := (1, 0)) (by rw [eF, if_pos (by simpa only [br_iff, need_iff, andB_t, andB_f, orB_t, orB_f, notB_t, notB_f, leI_t, leI_f, ltI_t, ltI_f, eqI_t, eqI_f, leN_t, leN_f, eqN_t, eqN_f, eqS_t, eqS_f, eqB_t, eqB_f, catOk_t, leC_t] using g)]), fun g2 => ?_⟩
    rw [if_neg (by simpa only [br_iff, need_iff, andB_t, andB_f, orB_t, orB_f, notB_t, notB_f, leI_t, leI_f, ltI_t, ltI_f, eqI_t, eqI_f, leN_t, leN_f, eqN_t, eqN_f, eqS_t, eqS_f, eqB_t, eqB_f, catOk_t, leC_t] using g2)] at eF
    obtain ⟨p1, p2, p3⟩ := place_id hs hp
    have hcb := child_bound (p := p) hs (by omega)
    rw [show (⟨p.id, p.name, p.mode, p.window, p.file⟩ : Place) = p from rfl]
    refine ⟨l, rfl, hs, by omega, by omega, ⟨(childF l p).length, by omega, childF l p, 0, rfl, rfl, by omega, by rw [List.drop_zero]⟩, ?_⟩
    rintro x m ⟨cs, k, hcs, rfl, hk, hf⟩
    obtain rfl := intV_inj.1 hcs
    dsimp only
    rw [intV_lenL]
    rw [br_iff]; refine ⟨fun hlt => ?_, fun hge => ?_⟩
    · have hlt : k < (childF l p).length := by simp only [br_iff, need_iff, andB_t, andB_f, orB_t, orB_f, notB_t, notB_f, leI_t, leI_f, ltI_t, ltI_f, eqI_t, eqI_f, leN_t, leN_f, eqN_t, eqN_f, eqS_t, eqS_f, eqB_t, eqB_f, catOk_t, leC_t] at hlt; omega
      have gc := List.getElem?_eq_getElem hlt
      have hdrop := List.drop_eq_getElem_cons hlt
      generalize (childF l p)[k] = c at gc hdrop
      rw [hdrop, List.find?_cons] at hf
      have hc := hcb.1 c (List.mem_of_getElem? gc)
      rw [need_iff]; refine ⟨by simp only [br_iff, need_iff, andB_t, andB_f, orB_t, orB_f, notB_t, notB_f, leI_t, leI_f, ltI_t, ltI_f, eqI_t, eqI_f, leN_t, leN_f, eqN_t, eqN_f, eqS_t, eqS_f, eqB_t, eqB_f, catOk_t, leC_t]; omega, ?_⟩
      rw [need_iff]; refine ⟨by simpa using intV_ok hlt, c, by rw [intV_row gc]; rfl, l, rfl, hlen, by omega, ?_⟩
      have yes : placeN l c = nm → K (.tup [.int .i64 c, .int .i64 0]) [] := by
        intro h
        rw [show nameP l nm c = true from decide_eq_true h] at hf
        refine f (r := (c, 0)) ?_
        rw [eF, ← hf]
      have no : ¬ placeN l c = nm → wk_vc_1 nx f0 (windowV l) id nm II K l p m ⟨(k : Int)⟩ := by
        intro h
        rw [show nameP l nm c = false from decide_eq_false h] at hf
        unfold wk_vc_1
        refine ⟨by trivial, m - 1, by omega, childF l p, k + 1, rfl, by dsimp only; rw [addI_i64 (by omega) (by omega)]; rfl, by omega, hf⟩
      refine ⟨fun q hq => ?_, fun hq => ?_⟩
      · have e : placeN l c = q.name := by unfold placeN; simp only [hq]
        rw [br_iff]
        exact ⟨fun h => yes (by rw [e]; simpa only [br_iff, need_iff, andB_t, andB_f, orB_t, orB_f, notB_t, notB_f, leI_t, leI_f, ltI_t, ltI_f, eqI_t, eqI_f, leN_t, leN_f, eqN_t, eqN_f, eqS_t, eqS_f, eqB_t, eqB_f, catOk_t, leC_t] using h), fun h => no (by rw [e]; simpa only [br_iff, need_iff, andB_t, andB_f, orB_t, orB_f, notB_t, notB_f, leI_t, leI_f, ltI_t, ltI_f, eqI_t, eqI_f, leN_t, leN_f, eqN_t, eqN_f, eqS_t, eqS_f, eqB_t, eqB_f, catOk_t, leC_t] using h)⟩
      · have e : placeN l c = [] := by unfold placeN; simp only [hq]
        rw [br_iff]
        exact ⟨fun h => yes (by rw [e]; simpa only [br_iff, need_iff, andB_t, andB_f, orB_t, orB_f, notB_t, notB_f, leI_t, leI_f, ltI_t, ltI_f, eqI_t, eqI_f, leN_t, leN_f, eqN_t, eqN_f, eqS_t, eqS_f, eqB_t, eqB_f, catOk_t, leC_t] using h), fun h => no (by rw [e]; simpa only [br_iff, need_iff, andB_t, andB_f, orB_t, orB_f, notB_t, notB_f, leI_t, leI_f, ltI_t, ltI_f, eqI_t, eqI_f, leN_t, leN_f, eqN_t, eqN_f, eqS_t, eqS_f, eqB_t, eqB_f, catOk_t, leC_t] using h)⟩
    · have : k = (childF l p).length := by simp only [br_iff, need_iff, andB_t, andB_f, orB_t, orB_f, notB_t, notB_f, leI_t, leI_f, ltI_t, ltI_f, eqI_t, eqI_f, leN_t, leN_f, eqN_t, eqN_f, eqS_t, eqS_f, eqB_t, eqB_f, catOk_t, leC_t] at hge; omega
      subst this
      rw [List.drop_length, List.find?_nil] at hf
      refine f (r := (0, 8)) ?_
      rw [eF, ← hf]
  · exact h.elim
def dcell (d : Dir) : List V := [.int .i64 d.type, .int .i64 d.dev, .int .i64 d.qt, .int .i64 d.qv, .int .i64 d.qp, .int .i64 d.mode, .int .i64 d.atime, .int .i64 d.mtime, .int .i64 d.length, .str d.name, .str d.uid, .str d.gid, .str d.muid]
theorem dcell_v (d : Dir) : dcell d = d.v := rfl
def statsF (l : List Window) (cs : List Int) : List Dir := cs.map fun k => (statF l k).1
theorem stats_step {l : List Window} {cs : List Int} {k : Nat} {c : Int} (h : cs[k]? = some c) : statsF l (cs.take (k + 1)) = statsF l (cs.take k) ++ [(statF l c).1] := by
  obtain ⟨hk, rfl⟩ := List.getElem?_eq_some_iff.1 h
  unfold statsF
  rw [List.take_succ_eq_append_getElem hk, List.map_append]; rfl
theorem stats_len (l : List Window) (cs : List Int) : (statsF l cs).length = cs.length := by simp [statsF]
theorem list_some {l : List Window} {id : Int} {p : Place} (hp : fileF l id = some p) : listF l id = if p.mode < 2147483648 then ([], 9) else (statsF l (childF l p), 0) := by
  unfold listF statsF; simp only [hp]
def outI (l : List Window) (cs : List Int) (ys : List (List V)) (a b : Nat) (i : Int) (m : Nat) : Prop := ∃ k : Nat, ys = dirV (statsF l (cs.take k)) ∧ k = a ∧ k = b ∧ i = (k : Int) ∧ k + m = cs.length
theorem lww_con {n : Nat} (hn : 6 ≤ n) : ConOk (evalF Tryd.prog cfgN n) 23 listCon := by
  intro vs bs K h
  unfold listCon at h
  split at h
  · rename_i nx f0 xs id
    obtain ⟨l, rfl, hR, hid, hK⟩ := h
    have hs := right_smallI ((rightW_iff _).1 hR)
    have hlen := hs.1
    dsimp only at hs hlen
    let II : lwC → lwX → lwX → Nat → Prop := fun c _ x m => ∃ cs : List Int, c.zs = intV cs ∧ outI l cs x.ys x.a x.b x.i m
    refine run_of (lp := lpOf [(8, lwL II)]) (by omega) (ct := ctOf [(36, findCon), (37, inlC Tryd.prog cfgN (ctOf []) 37), (41, childCon), (21, statCon)])
      (fun k hk => ctOf_ok (ctOf_cons (fnd_con (by omega)) (ctOf_cons (inl_ok (by omega) (fun _ _ => noCt_ok _)) (ctOf_cons (ch_con (by omega)) (ctOf_cons (st_con (by omega)) (ctOf_nil _)))))) ?_
    rw [lw_vc]
    have f : ∀ {r}, listF l id = r → K (.tup [.lst (dirV r.1), .int .i64 r.2]) [] := fun h => by subst h; exact hK
    refine ⟨l, rfl, hlen, hid, fun p hp => ?_, fun hp => f (r := ([], 8)) (by unfold listF; simp only [hp])⟩
    have eF := list_some hp
    rw [br_iff]; refine ⟨fun g => f (r := ([], 9)) (by rw [eF, if_pos (by simpa only [br_iff, need_iff, andB_t, andB_f, orB_t, orB_f, notB_t, notB_f, leI_t, leI_f, ltI_t, ltI_f, eqI_t, eqI_f, leN_t, leN_f, eqN_t, eqN_f, eqS_t, eqS_f, eqB_t, eqB_f, catOk_t, leC_t] using g)]), fun g1 => ?_⟩
    rw [if_neg (by simp only [br_iff, need_iff, andB_t, andB_f, orB_t, orB_f, notB_t, notB_f, leI_t, leI_f, ltI_t, ltI_f, eqI_t, eqI_f, leN_t, leN_f, eqN_t, eqN_f, eqS_t, eqS_f, eqB_t, eqB_f, catOk_t, leC_t] at g1; omega)] at eF
    obtain ⟨p1, p2, p3⟩ := place_id hs hp
    have hcb := child_bound (p := p) hs (by omega)
    rw [show (⟨p.id, p.name, p.mode, p.window, p.file⟩ : Place) = p from rfl]
    refine ⟨l, rfl, hs, by omega, by omega, ⟨(childF l p).length, by omega, childF l p, rfl, 0, rfl, rfl, rfl, rfl, by omega⟩, ?_⟩
    rintro ⟨ys, a, b, i⟩ m ⟨cs, hcs, k, e1, e2, e3, e4, hk⟩
    obtain rfl := intV_inj.1 hcs
    dsimp only at e1 e2 e3 e4 ⊢
    subst e1 e2 e3 e4
    rw [intV_lenL]
    have hsl : (statsF l ((childF l p).take k)).length = k := by rw [stats_len, List.length_take]; omega
    rw [br_iff]; refine ⟨fun hlt => ?_, fun hge => ?_⟩
    · have hlt : k < (childF l p).length := by simp only [br_iff, need_iff, andB_t, andB_f, orB_t, orB_f, notB_t, notB_f, leI_t, leI_f, ltI_t, ltI_f, eqI_t, eqI_f, leN_t, leN_f, eqN_t, eqN_f, eqS_t, eqS_f, eqB_t, eqB_f, catOk_t, leC_t] at hlt; omega
      have gc := List.getElem?_eq_getElem hlt
      have hstep := stats_step (l := l) gc
      generalize (childF l p)[k] = c at gc hstep
      have hc := hcb.1 c (List.mem_of_getElem? gc)
      rw [need_iff]; refine ⟨by simp only [br_iff, need_iff, andB_t, andB_f, orB_t, orB_f, notB_t, notB_f, leI_t, leI_f, ltI_t, ltI_f, eqI_t, eqI_f, leN_t, leN_f, eqN_t, eqN_f, eqS_t, eqS_f, eqB_t, eqB_f, catOk_t, leC_t]; omega, ?_⟩
      rw [need_iff]; refine ⟨by simpa using intV_ok hlt, c, by rw [intV_row gc]; rfl, l, rfl, hlen, by omega, ?_⟩
      rw [need_iff]; refine ⟨dirV_head _, ?_⟩
      rw [br_iff]; refine ⟨fun w => by simp only [br_iff, need_iff, andB_t, andB_f, orB_t, orB_f, notB_t, notB_f, leI_t, leI_f, ltI_t, ltI_f, eqI_t, eqI_f, leN_t, leN_f, eqN_t, eqN_f, eqS_t, eqS_f, eqB_t, eqB_f, catOk_t, leC_t] at w; omega, fun _ => ?_⟩
      rw [need_iff]; refine ⟨by simp only [br_iff, need_iff, andB_t, andB_f, orB_t, orB_f, notB_t, notB_f, leI_t, leI_f, ltI_t, ltI_f, eqI_t, eqI_f, leN_t, leN_f, eqN_t, eqN_f, eqS_t, eqS_f, eqB_t, eqB_f, catOk_t, leC_t, dirV_len]; omega, ?_⟩
      rw [need_iff]; refine ⟨by simp only [br_iff, need_iff, andB_t, andB_f, orB_t, orB_f, notB_t, notB_f, leI_t, leI_f, ltI_t, ltI_f, eqI_t, eqI_f, leN_t, leN_f, eqN_t, eqN_f, eqS_t, eqS_f, eqB_t, eqB_f, catOk_t, leC_t]; omega, by trivial, m - 1, by omega, childF l p, rfl, k + 1, ?_, rfl, rfl, by rw [addI_i64 (by omega) (by omega)]; rfl, by omega⟩
      rw [hstep, List.drop_zero, ← dirV_app]
      rfl
    · have hk2 : k = (childF l p).length := by simp only [br_iff, need_iff, andB_t, andB_f, orB_t, orB_f, notB_t, notB_f, leI_t, leI_f, ltI_t, ltI_f, eqI_t, eqI_f, leN_t, leN_f, eqN_t, eqN_f, eqS_t, eqS_f, eqB_t, eqB_f, catOk_t, leC_t] at hge; omega
      subst hk2
      rw [List.take_length] at hsl ⊢
      have e : List.take (childF l p).length (List.drop 0 (dirV (statsF l (childF l p)))) = dirV (statsF l (childF l p)) := by
        rw [List.drop_zero]; exact List.take_of_length_le (by rw [dirV_len]; omega)
      rw [e]
      exact f (r := (statsF l (childF l p), 0)) eF
  · exact h.elim
theorem rn_con {n : Nat} (hn : 1 ≤ n) : ConOk (evalF Tryd.prog cfgN n) 44 nameRCon := by
  intro vs bs K h
  unfold nameRCon at h
  split at h
  · rename_i a
    refine run_of (lp := lpOf []) hn (fun k _ => noCt_ok _) ?_
    rw [rn_vc]
    unfold nameK at h
    rw [br_iff]; refine ⟨fun q => by obtain rfl : a = 1 := by simpa only [br_iff, need_iff, andB_t, andB_f, orB_t, orB_f, notB_t, notB_f, leI_t, leI_f, ltI_t, ltI_f, eqI_t, eqI_f, leN_t, leN_f, eqN_t, eqN_f, eqS_t, eqS_f, eqB_t, eqB_f, catOk_t, leC_t] using q
                                     exact h, fun q1 => ?_⟩
    rw [br_iff]; refine ⟨fun q => by obtain rfl : a = 2 := by simpa only [br_iff, need_iff, andB_t, andB_f, orB_t, orB_f, notB_t, notB_f, leI_t, leI_f, ltI_t, ltI_f, eqI_t, eqI_f, leN_t, leN_f, eqN_t, eqN_f, eqS_t, eqS_f, eqB_t, eqB_f, catOk_t, leC_t] using q
                                     exact h, fun q2 => ?_⟩
    rw [br_iff]; refine ⟨fun q => by obtain rfl : a = 3 := by simpa only [br_iff, need_iff, andB_t, andB_f, orB_t, orB_f, notB_t, notB_f, leI_t, leI_f, ltI_t, ltI_f, eqI_t, eqI_f, leN_t, leN_f, eqN_t, eqN_f, eqS_t, eqS_f, eqB_t, eqB_f, catOk_t, leC_t] using q
                                     exact h, fun q3 => ?_⟩
    rw [br_iff]; refine ⟨fun q => by obtain rfl : a = 4 := by simpa only [br_iff, need_iff, andB_t, andB_f, orB_t, orB_f, notB_t, notB_f, leI_t, leI_f, ltI_t, ltI_f, eqI_t, eqI_f, leN_t, leN_f, eqN_t, eqN_f, eqS_t, eqS_f, eqB_t, eqB_f, catOk_t, leC_t] using q
                                     exact h, fun q4 => ?_⟩
    simp only [br_iff, need_iff, andB_t, andB_f, orB_t, orB_f, notB_t, notB_f, leI_t, leI_f, ltI_t, ltI_f, eqI_t, eqI_f, leN_t, leN_f, eqN_t, eqN_f, eqS_t, eqS_f, eqB_t, eqB_f, catOk_t, leC_t] at q1 q2 q3 q4
    simp only [if_neg q1, if_neg q2, if_neg q3, if_neg q4] at h
    exact h
  · exact h.elim
/-- What a file is, by its id. -/
theorem place_ref {l : List Window} {id : Int} {p : Place} (h : fileF l id = some p) : p.mode = modeF id ∧ (dirB id = true ↔ 2147483648 ≤ p.mode) ∧ 0 < id ∧
    p.name = (if id = 1 then [47] else if id = 2 then [102, 111, 99, 117, 115] else if dirB id = true then textN 10 (id / 16) else nameK (id % 16)) ∧ (id = 1 → p.window = -1) ∧ (dirB id = true → 1 < id → 0 ≤ p.window) := by
  rcases file_cases h with ⟨h1, rfl⟩ | ⟨h1, rfl⟩ | ⟨i, x, h1, h2, h3, h4, h5, h6, h7, h8, h9, h10, h11, hm⟩
  · subst h1; refine ⟨by decide, by decide, by omega, by rfl, fun _ => rfl, fun _ h => by omega⟩
  · subst h1; refine ⟨by decide, by decide, by omega, by rfl, fun h => by omega, fun h _ => by revert h; decide⟩
  · have hd : dirB id = decide (id % 16 = 0) := by
      unfold dirB
      rw [decide_eq_false (p := id = 1) (by omega), decide_eq_true (p := 16 ≤ id) h1]; simp
    have hk := modeK_lt (id % 16)
    rcases hm with ⟨q1, q2, q3, q4⟩ | ⟨q1, q2, q3⟩
    · rw [decide_eq_true q1] at hd
      refine ⟨by unfold modeF; rw [if_pos hd, q3], by simp [hd, q3], by omega, ?_, by omega, by omega⟩
      rw [if_neg (by omega), if_neg (by omega), if_pos hd, q4]
    · rw [decide_eq_false q1] at hd
      refine ⟨by unfold modeF; rw [if_neg (by rw [hd]; simp), if_neg (by omega), q2], ?_, by omega, ?_, by omega, by simp [hd]⟩
      · rw [hd, q2]
        constructor
        · intro h; cases h
        · intro h; omega
      · rw [if_neg (by omega), if_neg (by omega), if_neg (by rw [hd]; simp), q3]
theorem rst_con {n : Nat} (hn : 4 ≤ n) : ConOk (evalF Tryd.prog cfgN n) 22 statCon := by
  intro vs bs K h
  unfold statCon at h
  split at h
  · rename_i nx f0 xs id
    obtain ⟨l, rfl, hlen, hid, hK⟩ := h
    refine run_of (lp := lpOf []) (by omega) (ct := ctOf [(42, exCon), (43, dirCon), (46, modeCon), (44, nameRCon), (45, tenCon)])
      (fun k hk => ctOf_ok (ctOf_cons (rx_con (by omega)) (ctOf_cons (rd2_con (by omega)) (ctOf_cons (rm_con (by omega)) (ctOf_cons (rn_con (by omega)) (ctOf_cons (rten_con (by omega)) (ctOf_nil _))))))) ?_
    rw [rst_vc]
    refine ⟨l, rfl, by omega, hid, ?_⟩
    rw [br_iff]; refine ⟨fun g => ?_, fun g => ?_⟩
    · have hp : fileF l id = none := by
        simp only [notB, Bool.not_eq_true'] at g
        unfold exB at g
        cases hq : fileF l id with
        | none => rfl
        | some p => rw [hq] at g; cases g
      have e : statF l id = (dirZ, 8) := by unfold statF; simp only [hp]
      rw [e] at hK; exact hK
    · obtain ⟨p, hp⟩ : ∃ p, fileF l id = some p := by
        simp only [notB, Bool.not_eq_false'] at g
        unfold exB at g
        cases hq : fileF l id with
        | none => rw [hq] at g; cases g
        | some p => exact ⟨p, rfl⟩
      obtain ⟨r1, r2, r3, r4, _⟩ := place_ref hp
      have e : statF l id = (statP id p, 0) := by unfold statF; simp only [hp]
      rw [e] at hK
      unfold statP at hK
      rw [r1, r4] at hK
      rw [r1] at r2
      dsimp only at hK
      have e1 : quoI .i64 id 16 = id / 16 := quoI_i64 (by omega) hid (by omega)
      have e2 : id.tmod 16 = id % 16 := tmod_pos (by omega)
      rw [e1, e2]
      have hq : -9223372036854775808 ≤ id / 16 ∧ id / 16 ≤ 9223372036854775807 := by omega
      refine ⟨by omega, ?_⟩
      have inner : ∀ q : Int, K (.tup [.agg [.int .i64 4, .int .i64 0, .int .i64 q, .int .i64 0, .int .i64 id, .int .i64 (modeF id), .int .i64 0, .int .i64 0, .int .i64 0, .str (if id = 1 then [47] else if id = 2 then [102, 111, 99, 117, 115] else if dirB id = true then textN 10 (id / 16) else nameK (id % 16)), .str [], .str [], .str []], .int .i64 0]) [] →
          br (eqI id 1) (K (.tup [.agg [.int .i64 4, .int .i64 0, .int .i64 q, .int .i64 0, .int .i64 id, .int .i64 (modeF id), .int .i64 0, .int .i64 0, .int .i64 0, .str [47], .str [], .str [], .str []], .int .i64 0]) [])
            (br (eqI id 2) (K (.tup [.agg [.int .i64 4, .int .i64 0, .int .i64 q, .int .i64 0, .int .i64 id, .int .i64 (modeF id), .int .i64 0, .int .i64 0, .int .i64 0, .str [102, 111, 99, 117, 115], .str [], .str [], .str []], .int .i64 0]) [])
              (br (dirB id) ((-9223372036854775808 : Int) ≤ id / 16 ∧ ((id / 16 : Int) ≤ 9223372036854775807 ∧ K (.tup [.agg [.int .i64 4, .int .i64 0, .int .i64 q, .int .i64 0, .int .i64 id, .int .i64 (modeF id), .int .i64 0, .int .i64 0, .int .i64 0, .str (textN 10 (id / 16)), .str [], .str [], .str []], .int .i64 0]) []))
                (K (.tup [.agg [.int .i64 4, .int .i64 0, .int .i64 q, .int .i64 0, .int .i64 id, .int .i64 (modeF id), .int .i64 0, .int .i64 0, .int .i64 0, .str (nameK (id % 16)), .str [], .str [], .str []], .int .i64 0]) []))) := by
        intro q hq2
        rw [br_iff]; refine ⟨fun w => by rw [if_pos (by simpa only [br_iff, need_iff, andB_t, andB_f, orB_t, orB_f, notB_t, notB_f, leI_t, leI_f, ltI_t, ltI_f, eqI_t, eqI_f, leN_t, leN_f, eqN_t, eqN_f, eqS_t, eqS_f, eqB_t, eqB_f, catOk_t, leC_t] using w)] at hq2; exact hq2, fun w => ?_⟩
        rw [if_neg (by simpa only [br_iff, need_iff, andB_t, andB_f, orB_t, orB_f, notB_t, notB_f, leI_t, leI_f, ltI_t, ltI_f, eqI_t, eqI_f, leN_t, leN_f, eqN_t, eqN_f, eqS_t, eqS_f, eqB_t, eqB_f, catOk_t, leC_t] using w)] at hq2
        rw [br_iff]; refine ⟨fun w => by rw [if_pos (by simpa only [br_iff, need_iff, andB_t, andB_f, orB_t, orB_f, notB_t, notB_f, leI_t, leI_f, ltI_t, ltI_f, eqI_t, eqI_f, leN_t, leN_f, eqN_t, eqN_f, eqS_t, eqS_f, eqB_t, eqB_f, catOk_t, leC_t] using w)] at hq2; exact hq2, fun w => ?_⟩
        rw [if_neg (by simpa only [br_iff, need_iff, andB_t, andB_f, orB_t, orB_f, notB_t, notB_f, leI_t, leI_f, ltI_t, ltI_f, eqI_t, eqI_f, leN_t, leN_f, eqN_t, eqN_f, eqS_t, eqS_f, eqB_t, eqB_f, catOk_t, leC_t] using w)] at hq2
        rw [br_iff]; exact ⟨fun w => ⟨hq.1, hq.2, by rw [if_pos w] at hq2; exact hq2⟩, fun w => by rw [if_neg (by rw [w]; simp)] at hq2; exact hq2⟩
      rw [br_iff]; refine ⟨fun w => ?_, fun w => ?_⟩
      · rw [if_pos (r2.1 w)] at hK
        exact inner 128 hK
      · rw [if_neg (fun h => by rw [r2.2 h] at w; cases w)] at hK
        exact inner 0 hK
  · exact h.elim
end Go.Proofs.YtdbbpibfejchfaaDoor
namespace Go.Proofs.YtdbbpibfejchfaaDoor
open Go.RowKit
set_option maxRecDepth 100000
set_option linter.unusedVariables false
set_option linter.unusedSimpArgs false
def winsF (l : List Window) : List Int := (l.filter fun x => !x.gone).map fun x => 16 * x.id
theorem exB_some {l : List Window} {id : Int} (h : exB l id = true) : ∃ p, fileF l id = some p := by
  unfold exB at h
  cases hq : fileF l id with
  | none => rw [hq] at h; cases h
  | some p => exact ⟨p, rfl⟩
theorem exB_none {l : List Window} {id : Int} (h : exB l id = false) : fileF l id = none := by
  unfold exB at h
  cases hq : fileF l id with
  | none => rfl
  | some p => rw [hq] at h; cases h
theorem name_win {l : List Window} (hasc : l.Pairwise (fun a b => a.id < b.id)) {i : Nat} {x : Window} (h : l[i]? = some x) (h1 : 1 ≤ x.id) (hg : x.gone = false) : placeN l (16 * x.id) = textN 10 x.id := by
  have e1 : divI (16 * x.id) 16 = x.id := by unfold divI; omega
  have e2 : modI (16 * x.id) 16 = 0 := by unfold modI; omega
  unfold placeN fileF
  rw [if_neg (by omega), if_neg (by omega), if_neg (by omega), e1, e2, idxW_asc hasc h, wAt_nat h, hg, if_neg (by rintro (h | h | h); omega; omega; exact absurd h.2 (by simp)), if_pos rfl]
theorem name_own {l : List Window} {n k : Int} {i : Nat} (h : idxW l n = (i : Int)) (hn : 1 ≤ n) (h1 : 1 ≤ k) (h2 : k ≤ 5) : placeN l (16 * n + k) = nameK k := by
  unfold placeN
  rw [fileF_at h hn h1 h2]
theorem rwk_con {n : Nat} (hn : 4 ≤ n) : ConOk (evalF Tryd.prog cfgN n) 20 walkCon := by
  intro vs bs K h
  unfold walkCon at h
  split at h
  · rename_i nn f0 xs id nm
    obtain ⟨l, rfl, hRb, hid, hK⟩ := h
    have hR := (rightW_iff _).1 hRb
    have hs := right_smallI hR
    have hlen := hs.1
    dsimp only at hs hlen
    let II : rwkC → rwkX → rwkX → Nat → Prop := fun _ _ x m => ∃ k : Nat, x = ⟨(k : Int)⟩ ∧ k + m = l.length ∧ (winsF (l.drop k)).find? (nameP l nm) = (winsF l).find? (nameP l nm)
    refine run_of (lp := lpOf [(10, unrL 6), (15, rwkL II)]) (by omega) (ct := ctOf [(42, exCon), (43, dirCon), (44, nameRCon), (45, tenCon)])
      (fun k hk => ctOf_ok (ctOf_cons (rx_con (by omega)) (ctOf_cons (rd2_con (by omega)) (ctOf_cons (rn_con (by omega)) (ctOf_cons (rten_con (by omega)) (ctOf_nil _)))))) ?_
    rw [rwk_vc]
    have f : ∀ {r}, walkF l id nm = r → K (.tup [.int .i64 r.1, .int .i64 r.2]) [] := fun h => by subst h; exact hK
    refine ⟨l, rfl, by omega, hid, ?_⟩
    rw [br_iff]; refine ⟨fun g => f (r := (0, 8)) (by unfold walkF; simp only [exB_none (by simpa only [notB, Bool.not_eq_true'] using g)]), fun g => ?_⟩
    obtain ⟨p, hp⟩ := exB_some (show exB l id = true by simpa only [notB, Bool.not_eq_false'] using g)
    obtain ⟨r1, r2, r3, r4, r5, r6⟩ := place_ref hp
    obtain ⟨p1, p2, p3⟩ := place_id hs hp
    have eF := walk_some hp nm
    rw [br_iff]; refine ⟨fun g => f (r := (0, 9)) ?_, fun g1 => ?_⟩
    · rw [eF, if_pos]
      rcases Int.lt_or_le p.mode 2147483648 with h | h
      · exact h
      · have := r2.2 h
        rw [this] at g; cases g
    have hd : dirB id = true := by simpa only [notB, Bool.not_eq_false'] using g1
    have hm := r2.1 hd
    rw [if_neg (by omega)] at eF
    rw [br_iff]; refine ⟨fun g => f (r := (1, 0)) (by rw [eF, if_pos (by simpa only [br_iff, need_iff, andB_t, andB_f, orB_t, orB_f, notB_t, notB_f, leI_t, leI_f, ltI_t, ltI_f, eqI_t, eqI_f, leN_t, leN_f, eqN_t, eqN_f, eqS_t, eqS_f, eqB_t, eqB_f, catOk_t, leC_t] using g)]), fun g2 => ?_⟩
    rw [if_neg (by simpa only [br_iff, need_iff, andB_t, andB_f, orB_t, orB_f, notB_t, notB_f, leI_t, leI_f, ltI_t, ltI_f, eqI_t, eqI_f, leN_t, leN_f, eqN_t, eqN_f, eqS_t, eqS_f, eqB_t, eqB_f, catOk_t, leC_t] using g2)] at eF
    -- the loop over the windows
    have loop : (id ≠ 1 → walkF l id nm = (0, 8)) → (id = 1 → walkF l id nm = match (winsF l).find? (nameP l nm) with | some k => ((k, 0) : Int × Int) | none => ((0, 8) : Int × Int)) → rwk_vc_2 nn f0 (windowV l) id nm II K := by
      intro w1 w2
      unfold rwk_vc_2
      simp only [windowV_lenL]
      refine ⟨⟨l.length, by omega, 0, rfl, by omega, by rw [List.drop_zero]⟩, ?_⟩
      rintro _ m ⟨k, rfl, hk, hf⟩
      dsimp only
      rw [br_iff]; refine ⟨fun hlt => ?_, fun hge => ?_⟩
      · have hlt : k < l.length := by simp only [br_iff, need_iff, andB_t, andB_f, orB_t, orB_f, notB_t, notB_f, leI_t, leI_f, ltI_t, ltI_f, eqI_t, eqI_f, leN_t, leN_f, eqN_t, eqN_f, eqS_t, eqS_f, eqB_t, eqB_f, catOk_t, leC_t] at hlt; omega
        rw [br_iff]; refine ⟨fun h1 => ?_, fun h1 => f (r := (0, 8)) (w1 (by simpa only [br_iff, need_iff, andB_t, andB_f, orB_t, orB_f, notB_t, notB_f, leI_t, leI_f, ltI_t, ltI_f, eqI_t, eqI_f, leN_t, leN_f, eqN_t, eqN_f, eqS_t, eqS_f, eqB_t, eqB_f, catOk_t, leC_t] using h1))⟩
        have h1 : id = 1 := by simpa only [br_iff, need_iff, andB_t, andB_f, orB_t, orB_f, notB_t, notB_f, leI_t, leI_f, ltI_t, ltI_f, eqI_t, eqI_f, leN_t, leN_f, eqN_t, eqN_f, eqS_t, eqS_f, eqB_t, eqB_f, catOk_t, leC_t] using h1
        have gx : l[k]? = some l[k] := List.getElem?_eq_getElem hlt
        generalize l[k] = x at gx
        have rx := windowV_row gx
        have kx : okRow (windowV l) (Int.toNat (k : Int)) 8 = true := by simpa using windowV_ok (l := l) (i := k) hlt
        have nx : andB (leI 0 (k : Int)) (ltI (k : Int) (l.length : Int)) = true := by simp only [br_iff, need_iff, andB_t, andB_f, orB_t, orB_f, notB_t, notB_f, leI_t, leI_f, ltI_t, ltI_f, eqI_t, eqI_f, leN_t, leN_f, eqN_t, eqN_f, eqS_t, eqS_f, eqB_t, eqB_f, catOk_t, leC_t]; omega
        have hdrop := List.drop_eq_getElem_cons hlt
        rw [show l[k] = x from Option.some.inj ((List.getElem?_eq_getElem hlt).symm.trans gx)] at hdrop
        have hxi := hR.ids x (List.mem_of_getElem? gx)
        have hx2 := hs.2 x (List.mem_of_getElem? gx)
        have next : (winsF (l.drop (k + 1))).find? (nameP l nm) = (winsF l).find? (nameP l nm) → rwk_vc_3 nn f0 (windowV l) id nm II K m ⟨(k : Int)⟩ := by
          intro hf2
          unfold rwk_vc_3
          exact ⟨by trivial, m - 1, by omega, k + 1, by dsimp only; rw [addI_i64 (by omega) (by omega)]; rfl, by omega, hf2⟩
        rw [need_iff]; refine ⟨nx, ?_⟩
        rw [need_iff]; refine ⟨kx, x.gone, by rw [rx]; rfl, ?_⟩
        rw [br_iff]; refine ⟨fun q => ?_, fun q => ?_⟩
        · simp only [notB, Bool.not_eq_true'] at q
          have e : winsF (l.drop k) = 16 * x.id :: winsF (l.drop (k + 1)) := by rw [hdrop]; simp [winsF, q]
          rw [e, List.find?_cons] at hf
          rw [need_iff]; refine ⟨nx, ?_⟩
          rw [need_iff]; refine ⟨kx, x.id, by rw [rx]; rfl, by omega, by omega, ?_⟩
          have en := name_win hR.asc gx (by omega) q
          rw [br_iff]; refine ⟨fun w => ?_, fun w => ?_⟩
          · have w : textN 10 x.id = nm := by simpa only [br_iff, need_iff, andB_t, andB_f, orB_t, orB_f, notB_t, notB_f, leI_t, leI_f, ltI_t, ltI_f, eqI_t, eqI_f, leN_t, leN_f, eqN_t, eqN_f, eqS_t, eqS_f, eqB_t, eqB_f, catOk_t, leC_t] using w
            rw [show nameP l nm (16 * x.id) = true from decide_eq_true (en.trans w)] at hf
            rw [need_iff]; refine ⟨nx, ?_⟩
            rw [need_iff]; refine ⟨kx, x.id, by rw [rx]; rfl, ?_⟩
            rw [mulI_i64 (by omega) (by omega)]
            refine f (r := (16 * x.id, 0)) ?_
            rw [w2 h1, ← hf]
          · have w : ¬ textN 10 x.id = nm := by simpa only [br_iff, need_iff, andB_t, andB_f, orB_t, orB_f, notB_t, notB_f, leI_t, leI_f, ltI_t, ltI_f, eqI_t, eqI_f, leN_t, leN_f, eqN_t, eqN_f, eqS_t, eqS_f, eqB_t, eqB_f, catOk_t, leC_t] using w
            rw [show nameP l nm (16 * x.id) = false from decide_eq_false (by rw [en]; exact w)] at hf
            exact next hf
        · simp only [notB, Bool.not_eq_false'] at q
          have e : winsF (l.drop k) = winsF (l.drop (k + 1)) := by rw [hdrop]; simp [winsF, q]
          rw [e] at hf
          exact next hf
      · have : k = l.length := by simp only [br_iff, need_iff, andB_t, andB_f, orB_t, orB_f, notB_t, notB_f, leI_t, leI_f, ltI_t, ltI_f, eqI_t, eqI_f, leN_t, leN_f, eqN_t, eqN_f, eqS_t, eqS_f, eqB_t, eqB_f, catOk_t, leC_t] at hge; omega
        subst this
        rw [List.drop_length] at hf
        refine f (r := (0, 8)) ?_
        by_cases h1 : id = 1
        · rw [w2 h1, ← hf]; rfl
        · exact w1 h1
    rw [br_iff]; refine ⟨fun g3 => ?_, fun g3 => ?_⟩
    · have g3 : id = 1 := by simpa only [br_iff, need_iff, andB_t, andB_f, orB_t, orB_f, notB_t, notB_f, leI_t, leI_f, ltI_t, ltI_f, eqI_t, eqI_f, leN_t, leN_f, eqN_t, eqN_f, eqS_t, eqS_f, eqB_t, eqB_f, catOk_t, leC_t] using g3
      have ec : childF l p = 2 :: winsF l := by unfold childF rootF winsF; rw [if_neg (by rw [r5 g3]; omega)]
      have e2 : placeN l 2 = [102, 111, 99, 117, 115] := rfl
      rw [ec, List.find?_cons] at eF
      rw [br_iff]; refine ⟨fun q => f (r := (2, 0)) ?_, fun q => ?_⟩
      · have q : nm = [102, 111, 99, 117, 115] := by simpa only [br_iff, need_iff, andB_t, andB_f, orB_t, orB_f, notB_t, notB_f, leI_t, leI_f, ltI_t, ltI_f, eqI_t, eqI_f, leN_t, leN_f, eqN_t, eqN_f, eqS_t, eqS_f, eqB_t, eqB_f, catOk_t, leC_t] using q
        rw [eF, show nameP l nm 2 = true from decide_eq_true (by rw [e2, q])]
      · have q : ¬ nm = [102, 111, 99, 117, 115] := by simpa only [br_iff, need_iff, andB_t, andB_f, orB_t, orB_f, notB_t, notB_f, leI_t, leI_f, ltI_t, ltI_f, eqI_t, eqI_f, leN_t, leN_f, eqN_t, eqN_f, eqS_t, eqS_f, eqB_t, eqB_f, catOk_t, leC_t] using q
        rw [show nameP l nm 2 = false from decide_eq_false (by rw [e2]; exact fun h => q h.symm)] at eF
        unfold rwk_vc_1
        have h1 : ltI 1 id = false := by simp only [br_iff, need_iff, andB_t, andB_f, orB_t, orB_f, notB_t, notB_f, leI_t, leI_f, ltI_t, ltI_f, eqI_t, eqI_f, leN_t, leN_f, eqN_t, eqN_f, eqS_t, eqS_f, eqB_t, eqB_f, catOk_t, leC_t]; omega
        rw [h1]
        exact loop (fun h => absurd g3 h) (fun _ => eF)
    · have g3 : ¬ id = 1 := by simpa only [br_iff, need_iff, andB_t, andB_f, orB_t, orB_f, notB_t, notB_f, leI_t, leI_f, ltI_t, ltI_f, eqI_t, eqI_f, leN_t, leN_f, eqN_t, eqN_f, eqS_t, eqS_f, eqB_t, eqB_f, catOk_t, leC_t] using g3
      have hw := r6 hd (by omega)
      have hd2 : 16 ≤ id ∧ id % 16 = 0 := by
        unfold dirB at hd
        rw [decide_eq_false g3] at hd
        simpa using hd
      obtain ⟨i, hi⟩ : ∃ i : Nat, idxW l (id / 16) = (i : Int) := by
        rcases file_cases hp with ⟨h1, _⟩ | ⟨h1, _⟩ | ⟨i, x, _, h2, _⟩
        · exact absurd h1 g3
        · omega
        · exact ⟨i, h2⟩
      have ec : childF l p = [id + 1, id + 2, id + 3, id + 4, id + 5] := by unfold childF; rw [if_pos hw, p1]
      have en : ∀ k : Int, 1 ≤ k → k ≤ 5 → placeN l (id + k) = nameK k := by
        intro k h1 h2
        have := name_own hi (by omega) h1 h2
        rw [show 16 * (id / 16) + k = id + k by omega] at this
        exact this
      have e1 := en 1 (by omega) (by omega)
      have e2 := en 2 (by omega) (by omega)
      have e3 := en 3 (by omega) (by omega)
      have e4 := en 4 (by omega) (by omega)
      have e5 := en 5 (by omega) (by omega)
      rw [ec] at eF
      have hY : ∀ {k : Int} {s : List UInt8}, placeN l (id + k) = nameK k → nameK k = s → eqS s nm = true → nameP l nm (id + k) = true := fun h1 h2 h3 => decide_eq_true (by rw [h1, h2]; simpa only [br_iff, need_iff, andB_t, andB_f, orB_t, orB_f, notB_t, notB_f, leI_t, leI_f, ltI_t, ltI_f, eqI_t, eqI_f, leN_t, leN_f, eqN_t, eqN_f, eqS_t, eqS_f, eqB_t, eqB_f, catOk_t, leC_t] using h3)
      have hN : ∀ {k : Int} {s : List UInt8}, placeN l (id + k) = nameK k → nameK k = s → eqS s nm = false → nameP l nm (id + k) = false := fun h1 h2 h3 => decide_eq_false (by rw [h1, h2]; simpa only [br_iff, need_iff, andB_t, andB_f, orB_t, orB_f, notB_t, notB_f, leI_t, leI_f, ltI_t, ltI_f, eqI_t, eqI_f, leN_t, leN_f, eqN_t, eqN_f, eqS_t, eqS_f, eqB_t, eqB_f, catOk_t, leC_t] using h3)
      unfold rwk_vc_1
      have h1 : ltI 1 id = true := by simp only [br_iff, need_iff, andB_t, andB_f, orB_t, orB_f, notB_t, notB_f, leI_t, leI_f, ltI_t, ltI_f, eqI_t, eqI_f, leN_t, leN_f, eqN_t, eqN_f, eqS_t, eqS_f, eqB_t, eqB_f, catOk_t, leC_t]; omega
      simp only [h1, br_tt]
      rw [addI_i64 (b := 1) (by omega) (by omega), addI_i64 (b := 2) (by omega) (by omega), addI_i64 (b := 3) (by omega) (by omega), addI_i64 (b := 4) (by omega) (by omega), addI_i64 (b := 5) (by omega) (by omega)]
      rw [List.find?_cons] at eF
      rw [br_iff]; refine ⟨fun q => f (r := (id + 1, 0)) (by rw [eF, hY e1 rfl q]), fun q => ?_⟩
      rw [hN e1 rfl q] at eF
      simp only [List.find?_cons] at eF
      rw [br_iff]; refine ⟨fun q => f (r := (id + 2, 0)) (by rw [eF, hY e2 rfl q]), fun q => ?_⟩
      rw [hN e2 rfl q] at eF
      simp only [] at eF
      rw [br_iff]; refine ⟨fun q => f (r := (id + 3, 0)) (by rw [eF, hY e3 rfl q]), fun q => ?_⟩
      rw [hN e3 rfl q] at eF
      simp only [] at eF
      rw [br_iff]; refine ⟨fun q => f (r := (id + 4, 0)) (by rw [eF, hY e4 rfl q]), fun q => ?_⟩
      rw [hN e4 rfl q] at eF
      simp only [] at eF
      rw [br_iff]; refine ⟨fun q => f (r := (id + 5, 0)) (by rw [eF, hY e5 rfl q]), fun q => ?_⟩
      rw [hN e5 rfl q] at eF
      exact loop (fun _ => by rw [eF]; rfl) (fun h => absurd h g3)
  · exact h.elim
def extF (id : Int) (j : Nat) : List Int := (List.range j).map fun t : Nat => id + ((t : Int) + 1)
theorem extF_step (id : Int) (j : Nat) : extF id (j + 1) = extF id j ++ [id + ((j : Int) + 1)] := by
  unfold extF
  rw [List.range_succ, List.map_append]; rfl
theorem extF_len (id : Int) (j : Nat) : (extF id j).length = j := by simp [extF]
def baseF (l : List Window) (id : Int) (k : Nat) : List Int := if id = 1 then rootF (l.take k) else []
theorem rll_con {n : Nat} (hn : 6 ≤ n) : ConOk (evalF Tryd.prog cfgN n) 24 listCon := by
  intro vs bs K h
  unfold listCon at h
  split at h
  · rename_i nn f0 xs id
    obtain ⟨l, rfl, hRb, hid, hK⟩ := h
    have hR := (rightW_iff _).1 hRb
    have hs := right_smallI hR
    have hlen := hs.1
    dsimp only at hs hlen
    let II : rlaC → rlaX → rlaX → Nat → Prop := fun _ _ x m => ∃ k : Nat, x = ⟨intV (baseF l id k), (baseF l id k).length, (baseF l id k).length, (k : Int)⟩ ∧ k + m = l.length
    let JJ : rlbC → rlbX → rlbX → Nat → Prop := fun _ _ x m => ∃ j : Nat, x = ⟨intV (baseF l id l.length ++ extF id j), (baseF l id l.length).length + j, (baseF l id l.length).length + j, (j : Int) + 1⟩ ∧ j + m = 5 ∧ (id = 1 → j = 0)
    let LL : rlcC → rlcX → rlcX → Nat → Prop := fun c _ x m => ∃ cs : List Int, c.zs = intV cs ∧ outI l cs x.ys x.a x.b x.i m
    refine run_of (lp := lpOf [(9, rlaL II), (14, rlbL JJ), (19, rlcL LL)]) (by omega) (ct := ctOf [(42, exCon), (43, dirCon), (22, statCon)])
      (fun k hk => ctOf_ok (ctOf_cons (rx_con (by omega)) (ctOf_cons (rd2_con (by omega)) (ctOf_cons (rst_con (by omega)) (ctOf_nil _))))) ?_
    rw [rl_vc]
    have f : ∀ {r}, listF l id = r → K (.tup [.lst (dirV r.1), .int .i64 r.2]) [] := fun h => by subst h; exact hK
    refine ⟨l, rfl, by omega, hid, ?_⟩
    rw [br_iff]; refine ⟨fun g => f (r := ([], 8)) (by unfold listF; simp only [exB_none (by simpa only [notB, Bool.not_eq_true'] using g)]), fun g => ?_⟩
    obtain ⟨p, hp⟩ := exB_some (show exB l id = true by simpa only [notB, Bool.not_eq_false'] using g)
    obtain ⟨r1, r2, r3, r4, r5, r6⟩ := place_ref hp
    obtain ⟨p1, p2, p3⟩ := place_id hs hp
    have eF := list_some hp
    rw [br_iff]; refine ⟨fun g => f (r := ([], 9)) ?_, fun g1 => ?_⟩
    · rw [eF, if_pos]
      rcases Int.lt_or_le p.mode 2147483648 with h | h
      · exact h
      · have := r2.2 h
        rw [this] at g; cases g
    have hd : dirB id = true := by simpa only [notB, Bool.not_eq_false'] using g1
    have hm := r2.1 hd
    rw [if_neg (by omega)] at eF
    have hcb := child_bound (p := p) hs (by omega)
    have hbl : ∀ k, (baseF l id k).length ≤ l.length + 1 := by
      intro k
      unfold baseF
      split
      · have := rootF_len (l.take k)
        rw [List.length_take] at this; omega
      · simp
    -- the last loop
    have v2 : ∀ j : Nat, baseF l id l.length ++ extF id j = childF l p → rl_vc_2 nn f0 (windowV l) id II JJ LL K ⟨intV (baseF l id l.length ++ extF id j), (baseF l id l.length).length + j, (baseF l id l.length).length + j, (j : Int) + 1⟩ := by
      intro j hj
      unfold rl_vc_2
      dsimp only
      have hl : (baseF l id l.length).length + j = (childF l p).length := by rw [← hj, List.length_append, extF_len]
      rw [hj, hl]
      have et : List.take (childF l p).length (List.drop 0 (intV (childF l p))) = intV (childF l p) := by rw [List.drop_zero, intV_all]
      rw [et]
      refine ⟨⟨(childF l p).length, by omega, childF l p, rfl, 0, rfl, rfl, rfl, rfl, by omega⟩, ?_⟩
      rintro ⟨ys, a, b, i⟩ m ⟨cs, hcs, k, e1, e2, e3, e4, hk⟩
      obtain rfl := intV_inj.1 hcs
      dsimp only at e1 e2 e3 e4 ⊢
      subst e1 e2 e3 e4
      rw [intV_lenL]
      have hsl : (statsF l ((childF l p).take k)).length = k := by rw [stats_len, List.length_take]; omega
      rw [br_iff]; refine ⟨fun hlt => ?_, fun hge => ?_⟩
      · have hlt : k < (childF l p).length := by simp only [br_iff, need_iff, andB_t, andB_f, orB_t, orB_f, notB_t, notB_f, leI_t, leI_f, ltI_t, ltI_f, eqI_t, eqI_f, leN_t, leN_f, eqN_t, eqN_f, eqS_t, eqS_f, eqB_t, eqB_f, catOk_t, leC_t, Int.ofNat_eq_natCast] at hlt; omega
        have gc := List.getElem?_eq_getElem hlt
        have hstep := stats_step (l := l) gc
        generalize (childF l p)[k] = c at gc hstep
        have hc := hcb.1 c (List.mem_of_getElem? gc)
        rw [need_iff]; refine ⟨by simp only [br_iff, need_iff, andB_t, andB_f, orB_t, orB_f, notB_t, notB_f, leI_t, leI_f, ltI_t, ltI_f, eqI_t, eqI_f, leN_t, leN_f, eqN_t, eqN_f, eqS_t, eqS_f, eqB_t, eqB_f, catOk_t, leC_t]; omega, ?_⟩
        rw [need_iff]; refine ⟨by simpa using intV_ok hlt, c, by rw [intV_row gc]; rfl, l, rfl, hlen, by omega, ?_⟩
        rw [need_iff]; refine ⟨dirV_head _, ?_⟩
        rw [br_iff]; refine ⟨fun w => by simp only [br_iff, need_iff, andB_t, andB_f, orB_t, orB_f, notB_t, notB_f, leI_t, leI_f, ltI_t, ltI_f, eqI_t, eqI_f, leN_t, leN_f, eqN_t, eqN_f, eqS_t, eqS_f, eqB_t, eqB_f, catOk_t, leC_t] at w; omega, fun _ => ?_⟩
        rw [need_iff]; refine ⟨by simp only [br_iff, need_iff, andB_t, andB_f, orB_t, orB_f, notB_t, notB_f, leI_t, leI_f, ltI_t, ltI_f, eqI_t, eqI_f, leN_t, leN_f, eqN_t, eqN_f, eqS_t, eqS_f, eqB_t, eqB_f, catOk_t, leC_t, dirV_len]; omega, ?_⟩
        rw [need_iff]; refine ⟨by simp only [br_iff, need_iff, andB_t, andB_f, orB_t, orB_f, notB_t, notB_f, leI_t, leI_f, ltI_t, ltI_f, eqI_t, eqI_f, leN_t, leN_f, eqN_t, eqN_f, eqS_t, eqS_f, eqB_t, eqB_f, catOk_t, leC_t]; omega, by trivial, m - 1, by omega, childF l p, rfl, k + 1, ?_, rfl, rfl, by rw [addI_i64 (by omega) (by omega)]; rfl, by omega⟩
        rw [hstep, List.drop_zero, ← dirV_app]
        rfl
      · have hk2 : k = (childF l p).length := by simp only [br_iff, need_iff, andB_t, andB_f, orB_t, orB_f, notB_t, notB_f, leI_t, leI_f, ltI_t, ltI_f, eqI_t, eqI_f, leN_t, leN_f, eqN_t, eqN_f, eqS_t, eqS_f, eqB_t, eqB_f, catOk_t, leC_t, Int.ofNat_eq_natCast] at hge; omega
        subst hk2
        rw [List.take_length] at hsl ⊢
        have e : List.take (childF l p).length (List.drop 0 (dirV (statsF l (childF l p)))) = dirV (statsF l (childF l p)) := by
          rw [List.drop_zero]; exact List.take_of_length_le (by rw [dirV_len]; omega)
        rw [e]
        exact f (r := (statsF l (childF l p), 0)) eF
    -- the second loop
    have hid16 : id ≠ 1 → 16 ≤ id ∧ 0 ≤ p.window := by
      intro h1
      have h2 : 16 ≤ id := by
        unfold dirB at hd
        rw [decide_eq_false h1] at hd
        simp at hd; omega
      exact ⟨h2, r6 hd (by omega)⟩
    have go : ∀ i : Int, rl_vc_1 nn f0 (windowV l) id II JJ LL K ⟨intV (baseF l id l.length), (baseF l id l.length).length, (baseF l id l.length).length, i⟩ := by
      intro i
      unfold rl_vc_1
      dsimp only
      refine ⟨⟨5, by omega, 0, by simp [extF], by omega, fun _ => rfl⟩, ?_⟩
      rintro _ m ⟨j, rfl, hj, hj1⟩
      dsimp only
      have hb := hbl l.length
      rw [br_iff]; refine ⟨fun g5 => ?_, fun g5 => ?_⟩
      · have g5 : j < 5 := by simp only [br_iff, need_iff, andB_t, andB_f, orB_t, orB_f, notB_t, notB_f, leI_t, leI_f, ltI_t, ltI_f, eqI_t, eqI_f, leN_t, leN_f, eqN_t, eqN_f, eqS_t, eqS_f, eqB_t, eqB_f, catOk_t, leC_t] at g5; omega
        rw [br_iff]; refine ⟨fun g6 => ?_, fun g6 => ?_⟩
        · have g6 : 1 < id := by simpa only [br_iff, need_iff, andB_t, andB_f, orB_t, orB_f, notB_t, notB_f, leI_t, leI_f, ltI_t, ltI_f, eqI_t, eqI_f, leN_t, leN_f, eqN_t, eqN_f, eqS_t, eqS_f, eqB_t, eqB_f, catOk_t, leC_t] using g6
          rw [need_iff]; refine ⟨intV_head _, ?_⟩
          rw [br_iff]; refine ⟨fun w => by simp only [br_iff, need_iff, andB_t, andB_f, orB_t, orB_f, notB_t, notB_f, leI_t, leI_f, ltI_t, ltI_f, eqI_t, eqI_f, leN_t, leN_f, eqN_t, eqN_f, eqS_t, eqS_f, eqB_t, eqB_f, catOk_t, leC_t] at w; omega, fun _ => ?_⟩
          rw [need_iff]; refine ⟨by simp only [br_iff, need_iff, andB_t, andB_f, orB_t, orB_f, notB_t, notB_f, leI_t, leI_f, ltI_t, ltI_f, eqI_t, eqI_f, leN_t, leN_f, eqN_t, eqN_f, eqS_t, eqS_f, eqB_t, eqB_f, catOk_t, leC_t, intV_len, List.length_append, extF_len]; omega, ?_⟩
          rw [need_iff]; refine ⟨by simp only [br_iff, need_iff, andB_t, andB_f, orB_t, orB_f, notB_t, notB_f, leI_t, leI_f, ltI_t, ltI_f, eqI_t, eqI_f, leN_t, leN_f, eqN_t, eqN_f, eqS_t, eqS_f, eqB_t, eqB_f, catOk_t, leC_t]; omega, by trivial, m - 1, by omega, j + 1, ?_, by omega, fun h => by omega⟩
          have e : intV (baseF l id l.length ++ extF id j) ++ [[V.int IntKind.i64 (id + ((j : Int) + 1))]] = intV ((baseF l id l.length ++ extF id j) ++ [id + ((j : Int) + 1)]) := intV_app _ [_]
          rw [addI_i64 (a := id) (by omega) (by omega), addI_i64 (a := (j : Int) + 1) (by omega) (by omega), extF_step, List.drop_zero, e, List.append_assoc]
          rfl
        · have h1 : id = 1 := by
            by_cases h : id = 1
            · exact h
            · have := hid16 h
              simp only [br_iff, need_iff, andB_t, andB_f, orB_t, orB_f, notB_t, notB_f, leI_t, leI_f, ltI_t, ltI_f, eqI_t, eqI_f, leN_t, leN_f, eqN_t, eqN_f, eqS_t, eqS_f, eqB_t, eqB_f, catOk_t, leC_t] at g6; omega
          have h0 := hj1 h1
          subst h0
          refine v2 0 ?_
          unfold baseF childF
          rw [if_pos h1, List.take_length, if_neg (by rw [r5 h1]; omega)]
          simp [extF]
      · have hj5 : j = 5 := by simp only [br_iff, need_iff, andB_t, andB_f, orB_t, orB_f, notB_t, notB_f, leI_t, leI_f, ltI_t, ltI_f, eqI_t, eqI_f, leN_t, leN_f, eqN_t, eqN_f, eqS_t, eqS_f, eqB_t, eqB_f, catOk_t, leC_t] at g5; omega
        have h1 : id ≠ 1 := fun h => by have := hj1 h; omega
        subst hj5
        refine v2 5 ?_
        unfold baseF childF
        rw [if_neg h1, if_pos (hid16 h1).2, p1]
        rfl
    -- the first loop
    have first : ∀ x m, II (rlaC.mk id nn f0 (windowV l)) ⟨[], 0, 0, 0⟩ x m → ∀ z : rlaX,
        br (ltI x.4 (lenL (windowV l))) (br (eqI id 1) (need (andB (leI 0 x.4) (ltI x.4 (lenL (windowV l)))) (need (okRow (windowV l) x.4.toNat 8)
          (∃ b11 : Bool, ((sub (rowAt (windowV l) x.4) 7 1 : Option (List V)) = some [V.bool b11]) ∧ (
            br (notB b11) (need (andB (leI 0 x.4) (ltI x.4 (lenL (windowV l)))) (need (okRow (windowV l) x.4.toNat 8)
              (∃ n12 : Int, ((sub (rowAt (windowV l) x.4) 0 1 : Option (List V)) = some [V.int IntKind.i64 n12]) ∧ (
                need (headOkP 1 x.1) (br (leN (x.2 + 1) x.3)
                  (((rlaC.mk id nn f0 (windowV l) : (rlaL II).C) = rlaC.mk id nn f0 (windowV l)) ∧ (∃ m'13 : Nat, (((m'13 : Nat) < m)) ∧ (
                    II (rlaC.mk id nn f0 (windowV l)) z (rlaX.mk (List.take (0 + x.2) x.1 ++ [[V.int IntKind.i64 (mulI IntKind.i64 16 n12)]] ++ List.drop (0 + x.2 + 1) x.1) (x.2 + 1) x.3 (addI IntKind.i64 x.4 1)) m'13)))
                  (need (eqN (0 + x.2) x.1.length) (need (leN ((x.2 + 1) * 8) 140737488355328)
                    (((rlaC.mk id nn f0 (windowV l) : (rlaL II).C) = rlaC.mk id nn f0 (windowV l)) ∧ (∃ m'13 : Nat, (((m'13 : Nat) < m)) ∧ (
                      II (rlaC.mk id nn f0 (windowV l)) z (rlaX.mk (List.drop 0 x.1 ++ [[V.int IntKind.i64 (mulI IntKind.i64 16 n12)]]) (x.2 + 1) (x.2 + 1) (addI IntKind.i64 x.4 1)) m'13))))))))))
              (((rlaC.mk id nn f0 (windowV l) : (rlaL II).C) = rlaC.mk id nn f0 (windowV l)) ∧ (∃ m'12 : Nat, (((m'12 : Nat) < m)) ∧ (
                II (rlaC.mk id nn f0 (windowV l)) z (rlaX.mk x.1 x.2 x.3 (addI IntKind.i64 x.4 1)) m'12))))))) (rl_vc_1 nn f0 (windowV l) id II JJ LL K x)) (rl_vc_1 nn f0 (windowV l) id II JJ LL K x) := by
      rintro _ m ⟨k, rfl, hk⟩ z
      dsimp only
      simp only [windowV_lenL]
      have hbk := hbl k
      have same : id ≠ 1 ∨ k = l.length → baseF l id k = baseF l id l.length := by
        rintro (h | h)
        · unfold baseF; rw [if_neg h, if_neg h]
        · rw [h]
      rw [br_iff]; refine ⟨fun hlt => ?_, fun hge => ?_⟩
      · have hlt : k < l.length := by simp only [br_iff, need_iff, andB_t, andB_f, orB_t, orB_f, notB_t, notB_f, leI_t, leI_f, ltI_t, ltI_f, eqI_t, eqI_f, leN_t, leN_f, eqN_t, eqN_f, eqS_t, eqS_f, eqB_t, eqB_f, catOk_t, leC_t] at hlt; omega
        rw [br_iff]; refine ⟨fun h1 => ?_, fun h1 => ?_⟩
        · have h1 : id = 1 := by simpa only [br_iff, need_iff, andB_t, andB_f, orB_t, orB_f, notB_t, notB_f, leI_t, leI_f, ltI_t, ltI_f, eqI_t, eqI_f, leN_t, leN_f, eqN_t, eqN_f, eqS_t, eqS_f, eqB_t, eqB_f, catOk_t, leC_t] using h1
          have gx : l[k]? = some l[k] := List.getElem?_eq_getElem hlt
          generalize l[k] = x at gx
          have rx := windowV_row gx
          have kx : okRow (windowV l) (Int.toNat (k : Int)) 8 = true := by simpa using windowV_ok (l := l) (i := k) hlt
          have nx : andB (leI 0 (k : Int)) (ltI (k : Int) (l.length : Int)) = true := by simp only [br_iff, need_iff, andB_t, andB_f, orB_t, orB_f, notB_t, notB_f, leI_t, leI_f, ltI_t, ltI_f, eqI_t, eqI_f, leN_t, leN_f, eqN_t, eqN_f, eqS_t, eqS_f, eqB_t, eqB_f, catOk_t, leC_t]; omega
          have hx2 := hs.2 x (List.mem_of_getElem? gx)
          have hst := rootF_step gx
          have ek : addI .i64 (k : Int) 1 = ((k + 1 : Nat) : Int) := by rw [addI_i64 (by omega) (by omega)]; rfl
          have eb : ∀ k, baseF l id k = rootF (l.take k) := fun k => by unfold baseF; rw [if_pos h1]
          rw [need_iff]; refine ⟨nx, ?_⟩
          rw [need_iff]; refine ⟨kx, x.gone, by rw [rx]; rfl, ?_⟩
          rw [ek]
          rw [br_iff]; refine ⟨fun q => ?_, fun q => ⟨by trivial, m - 1, by omega, k + 1, ?_, by omega⟩⟩
          · simp only [notB, Bool.not_eq_true'] at q
            rw [if_neg (by rw [q]; simp)] at hst
            rw [need_iff]; refine ⟨nx, ?_⟩
            rw [need_iff]; refine ⟨kx, x.id, by rw [rx]; rfl, ?_⟩
            rw [mulI_i64 (by omega) (by omega)]
            rw [need_iff]; refine ⟨intV_head _, ?_⟩
            rw [br_iff]; refine ⟨fun w => by simp only [br_iff, need_iff, andB_t, andB_f, orB_t, orB_f, notB_t, notB_f, leI_t, leI_f, ltI_t, ltI_f, eqI_t, eqI_f, leN_t, leN_f, eqN_t, eqN_f, eqS_t, eqS_f, eqB_t, eqB_f, catOk_t, leC_t] at w; omega, fun _ => ?_⟩
            rw [need_iff]; refine ⟨by simp only [br_iff, need_iff, andB_t, andB_f, orB_t, orB_f, notB_t, notB_f, leI_t, leI_f, ltI_t, ltI_f, eqI_t, eqI_f, leN_t, leN_f, eqN_t, eqN_f, eqS_t, eqS_f, eqB_t, eqB_f, catOk_t, leC_t, intV_len]; omega, ?_⟩
            rw [need_iff]; refine ⟨by simp only [br_iff, need_iff, andB_t, andB_f, orB_t, orB_f, notB_t, notB_f, leI_t, leI_f, ltI_t, ltI_f, eqI_t, eqI_f, leN_t, leN_f, eqN_t, eqN_f, eqS_t, eqS_f, eqB_t, eqB_f, catOk_t, leC_t]; omega, by trivial, m - 1, by omega, k + 1, ?_, by omega⟩
            have e : intV (rootF (l.take k)) ++ [[V.int IntKind.i64 (16 * x.id)]] = intV (rootF (l.take k) ++ [16 * x.id]) := intV_app _ [_]
            rw [eb, eb, hst, List.length_append, List.length_singleton, List.drop_zero, e]
          · simp only [notB, Bool.not_eq_false'] at q
            rw [if_pos q] at hst
            rw [eb, eb, hst]
        · rw [same (.inl (by simpa only [br_iff, need_iff, andB_t, andB_f, orB_t, orB_f, notB_t, notB_f, leI_t, leI_f, ltI_t, ltI_f, eqI_t, eqI_f, leN_t, leN_f, eqN_t, eqN_f, eqS_t, eqS_f, eqB_t, eqB_f, catOk_t, leC_t] using h1))]
          exact go _
      · rw [same (.inr (by simp only [br_iff, need_iff, andB_t, andB_f, orB_t, orB_f, notB_t, notB_f, leI_t, leI_f, ltI_t, ltI_f, eqI_t, eqI_f, leN_t, leN_f, eqN_t, eqN_f, eqS_t, eqS_f, eqB_t, eqB_f, catOk_t, leC_t] at hge; omega))]
        exact go _
    rw [br_iff]; refine ⟨fun h1 => ?_, fun h1 => ?_⟩
    · have h1 : id = 1 := by simpa only [br_iff, need_iff, andB_t, andB_f, orB_t, orB_f, notB_t, notB_f, leI_t, leI_f, ltI_t, ltI_f, eqI_t, eqI_f, leN_t, leN_f, eqN_t, eqN_f, eqS_t, eqS_f, eqB_t, eqB_f, catOk_t, leC_t] using h1
      refine ⟨⟨l.length, by omega, 0, ?_, by omega⟩, fun x m hI => first x m hI ⟨[], 0, 0, 0⟩⟩
      unfold baseF
      rw [if_pos h1]; rfl
    · have h1 : ¬ id = 1 := by simpa only [br_iff, need_iff, andB_t, andB_f, orB_t, orB_f, notB_t, notB_f, leI_t, leI_f, ltI_t, ltI_f, eqI_t, eqI_f, leN_t, leN_f, eqN_t, eqN_f, eqS_t, eqS_f, eqB_t, eqB_f, catOk_t, leC_t] using h1
      refine ⟨⟨l.length, by omega, 0, ?_, by omega⟩, fun x m hI => first x m hI ⟨[], 0, 0, 0⟩⟩
      unfold baseF
      rw [if_neg h1]; rfl
  · exact h.elim
theorem ds_con {n : Nat} (hn : 1 ≤ n) : ConOk (evalF Tryd.prog cfgN n) 25 dirsCon := by
  intro vs bs K h
  unfold dirsCon at h
  split at h
  · obtain ⟨l, rfl, rfl, hb, hK⟩ := h
    refine run_of (lp := lpOf [(4, dsL fun _ _ x m => ∃ j : Nat, x = ⟨(j : Int)⟩ ∧ j + m = l.length)]) hn (fun k _ => noCt_ok _) ?_
    rw [ds_vc]
    simp only [dirV_lenL]
    rw [br_iff]; refine ⟨fun h => by simp only [br_iff, need_iff, andB_t, andB_f, orB_t, orB_f, notB_t, notB_f, leI_t, leI_f, ltI_t, ltI_f, eqI_t, eqI_f, leN_t, leN_f, eqN_t, eqN_f, eqS_t, eqS_f, eqB_t, eqB_f, catOk_t, leC_t] at h; exact absurd rfl h, fun _ => ⟨⟨l.length, by omega, 0, rfl, by omega⟩, ?_⟩⟩
    rintro _ m ⟨j, rfl, hj⟩
    dsimp only
    rw [br_iff]
    refine ⟨fun hlt => ?_, fun hge => hK⟩
    have hlt : j < l.length := by simp only [br_iff, need_iff, andB_t, andB_f, orB_t, orB_f, notB_t, notB_f, leI_t, leI_f, ltI_t, ltI_f, eqI_t, eqI_f, leN_t, leN_f, eqN_t, eqN_f, eqS_t, eqS_f, eqB_t, eqB_f, catOk_t, leC_t] at hlt; omega
    have gf : l[j]? = some l[j] := List.getElem?_eq_getElem hlt
    generalize l[j] = f at gf
    have rf := dirV_row gf
    have kf : okRow (dirV l) (Int.toNat (j : Int)) 13 = true := by simpa using dirV_ok (l := l) (i := j) hlt
    have nf : andB (leI 0 (j : Int)) (ltI (j : Int) (l.length : Int)) = true := by simp only [br_iff, need_iff, andB_t, andB_f, orB_t, orB_f, notB_t, notB_f, leI_t, leI_f, ltI_t, ltI_f, eqI_t, eqI_f, leN_t, leN_f, eqN_t, eqN_f, eqS_t, eqS_f, eqB_t, eqB_f, catOk_t, leC_t]; omega
    rw [need_iff, need_iff]
    refine ⟨nf, kf, ?_⟩
    try rw [rf]
    repeat apply Exists.intro
    refine ⟨rfl, ?_⟩
    rw [need_iff, need_iff]
    refine ⟨nf, kf, ?_⟩
    try rw [rf]
    repeat apply Exists.intro
    refine ⟨rfl, ?_⟩
    rw [br_iff]
    refine ⟨fun q => ?_, fun q => ⟨by trivial, m - 1, by omega, j + 1, by rw [addI_i64 (by omega) (by omega)]; rfl, by omega⟩⟩
    simp [strEq] at q
  · exact h.elim
theorem le_says {w : Windows} {id : Int} {nm : List UInt8} (hid : id ≤ 9223372036854775807) : Says 7 [.agg w.v, .int .i64 id, .str nm] := by
  refine run_of (lp := lpOf []) (ct := ctOf [(8, smCon), (11, rightCon), (9, okCon), (19, walkCon), (20, walkCon), (21, statCon), (22, statCon), (23, listCon), (24, listCon), (25, dirsCon)]) (by omega)
    (fun k hk => ctOf_ok (ctOf_cons (sm_con (by omega)) (ctOf_cons (rr_con (by omega)) (ctOf_cons (ok_con (by omega)) (ctOf_cons (wkk_con (by omega)) (ctOf_cons (rwk_con (by omega)) (ctOf_cons (st_con (by omega)) (ctOf_cons (rst_con (by omega)) (ctOf_cons (lww_con (by omega)) (ctOf_cons (rll_con (by omega)) (ctOf_cons (ds_con (by omega)) (ctOf_nil _)))))))))))) ?_
  obtain ⟨n, f, l⟩ := w
  refine cast (le_vc n f (windowV l) id nm fun r out => r = .bool true ∧ out = []).symm ?_
  have tt : (V.bool true = V.bool true ∧ ([] : List Bk) = []) := ⟨rfl, rfl⟩
  refine ⟨l, rfl, fun b hb => ?_⟩
  rw [br_iff]; refine ⟨fun _ => tt, fun g => ?_⟩
  have hs := hb (by simpa [notB] using g)
  have hsm : smallL l := ⟨by omega, fun x hx => by have := hs.2 x hx; omega⟩
  rw [br_iff]; refine ⟨fun _ => tt, fun g1 => ?_⟩
  refine ⟨l, rfl, hsm, ?_⟩
  rw [br_iff]; refine ⟨fun _ => tt, fun g2 => ?_⟩
  have hRb : rightW ⟨n, f, l⟩ = true := by simpa [notB] using g2
  have hs1 := right_smallI ((rightW_iff _).1 hRb)
  have hlen := hs1.1
  dsimp only at hlen
  refine ⟨l, rfl, hRb, hid, l, rfl, hRb, hid, ?_⟩
  rw [br_iff]; refine ⟨fun h => by simp only [br_iff, need_iff, andB_t, andB_f, orB_t, orB_f, notB_t, notB_f, leI_t, leI_f, ltI_t, ltI_f, eqI_t, eqI_f, leN_t, leN_f, eqN_t, eqN_f, eqS_t, eqS_f, eqB_t, eqB_f, catOk_t, leC_t] at h; exact absurd rfl h, fun _ => ?_⟩
  rw [br_iff]; refine ⟨fun h => by simp only [br_iff, need_iff, andB_t, andB_f, orB_t, orB_f, notB_t, notB_f, leI_t, leI_f, ltI_t, ltI_f, eqI_t, eqI_f, leN_t, leN_f, eqN_t, eqN_f, eqS_t, eqS_f, eqB_t, eqB_f, catOk_t, leC_t] at h; exact absurd rfl h, fun _ => ⟨l, rfl, hlen, hid, l, rfl, hlen, hid, ?_⟩⟩
  rw [br_iff]; refine ⟨fun h => by simp [strEq] at h, fun _ => ?_⟩
  rw [br_iff]; refine ⟨fun h => by simp only [br_iff, need_iff, andB_t, andB_f, orB_t, orB_f, notB_t, notB_f, leI_t, leI_f, ltI_t, ltI_f, eqI_t, eqI_f, leN_t, leN_f, eqN_t, eqN_f, eqS_t, eqS_f, eqB_t, eqB_f, catOk_t, leC_t] at h; exact absurd rfl h, fun _ => ⟨l, rfl, hRb, hid, l, rfl, hRb, hid, ?_⟩⟩
  rw [br_iff]; refine ⟨fun _ => ⟨(listF l id).1, rfl, rfl, ?_, ?_⟩, fun h => by simp only [br_iff, need_iff, andB_t, andB_f, orB_t, orB_f, notB_t, notB_f, leI_t, leI_f, ltI_t, ltI_f, eqI_t, eqI_f, leN_t, leN_f, eqN_t, eqN_f, eqS_t, eqS_f, eqB_t, eqB_f, catOk_t, leC_t] at h; exact absurd rfl h⟩
  · unfold listF
    split
    · simp
    · rename_i p hp
      have hp2 := place_id hs1 hp
      have := (child_bound (p := p) hs1 (by omega)).2
      dsimp only at this
      split
      · simp
      · simp only [List.length_map]; omega
  · exact tt
theorem reads_fits {us : List V} (h : FitsAll winNameSh us) : Says 7 us := by
  obtain ⟨v0, r0, rfl, h0, v1, r1, rfl, h1, v2, r2, rfl, h2, rfl⟩ := h
  obtain ⟨w, rfl, hf⟩ := win_fits h0
  obtain ⟨a, rfl, ha⟩ := int_fits h1
  obtain ⟨s, rfl, hs⟩ := str_fits h2
  exact le_says ha.2
end Go.Proofs.YtdbbpibfejchfaaDoor
