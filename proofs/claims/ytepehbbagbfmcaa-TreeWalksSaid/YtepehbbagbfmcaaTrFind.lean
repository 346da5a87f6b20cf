/- Trees: conditions of the searches. -/
import Derived.Test.YtepehbbagbfmcaaTrBase
namespace Go.Proofs.Ytepehbbagbfmcaa
open Go.RowKit
set_option maxRecDepth 100000
set_option linter.unusedVariables false
set_option linter.unusedSimpArgs false
def fidx (p : Node → Bool) (l : List Node) : Int := match l.findIdx? p with
  | some k => (k : Int)
  | none => -1

def idP (s : Int) (x : Node) : Bool := decide (x.id = s)

def chP (d : Int) (s : List UInt8) (x : Node) : Bool := decide (x.par = d ∧ x.id ≠ 1 ∧ x.name = s)

def zN : Node := ⟨0, 0, 0, [], 0, [], [], [], 0, 0, []⟩

def nodeF (l : List Node) (s : Int) : Node := (l.find? (idP s)).getD zN

def hasB (l : List Node) (s : Int) : Bool := (l.find? (idP s)).isSome

def withinF (l : List Node) (d : Int) : Int := if hasB l d = true then (if dirB (nodeF l d).mode = true then 0 else 9) else 8

def treeCon (g : List Node → Int → (V → Prop) → Prop) : Con := fun vs bs K => match vs, bs with
  | [.agg [.int .i64 n, .lst xs], .int .i64 s], [] => ∃ l, xs = nodeV l ∧ l.length ≤ 100000 ∧ g l s fun v => K v []
  | _, _ => False

def indexCon : Con := treeCon fun l s K => K (.int .i64 (fidx (idP s) l))

def nodeCon : Con := treeCon fun l s K => K (.tup [.agg (nodeF l s).v, .bool (hasB l s)])

def withinCon : Con := treeCon fun l s K => (nodeF l s).mode ≤ 9223372036854775807 ∧ K (.int .i64 (withinF l s))

def fiCon : Con := fun vs bs K => match vs, bs with
  | [.agg [.int .i64 n, .lst xs], .func 69 [] [.ptr 0 0 0]], [⟨true, true, true, [[.int .i64 s]], 0⟩] => ∃ l, xs = nodeV l ∧ l.length ≤ 100000 ∧ K (.int .i64 (fidx (idP s) l)) [⟨true, true, true, [[.int .i64 s]], 0⟩]
  | _, _ => False

def fcCon : Con := fun vs bs K => match vs, bs with
  | [.agg [.int .i64 n, .lst xs], .func 68 [] [.ptr 0 0 0, .ptr 1 0 0]], [⟨true, true, true, [[.int .i64 d]], 0⟩, ⟨true, true, true, [[.str s]], 0⟩] => ∃ l, xs = nodeV l ∧ l.length ≤ 100000 ∧ K (.int .i64 (fidx (chP d s) l)) [⟨true, true, true, [[.int .i64 d]], 0⟩, ⟨true, true, true, [[.str s]], 0⟩]
  | _, _ => False

def childCon : Con := fun vs bs K => match vs, bs with
  | [.agg [.int .i64 n, .lst xs], .int .i64 d, .str s], [] => ∃ l, xs = nodeV l ∧ l.length ≤ 100000 ∧ K (.int .i64 (fidx (chP d s) l)) []
  | _, _ => False

structure fiC where
  xs : List (List V)
  s : Int
  cnt : Int
structure fiX where
  i : Int
def fiSt (c : fiC) (x : fiX) : St := ⟨[(1, .func 69 [] [.ptr 0 0 0]), (8, .lst c.xs), (9, .int .i64 c.cnt), (10, .int .i64 x.i)], [(0, ⟨true, true, true, [[.int .i64 c.s]], 0⟩)]⟩
def fiUn (s : St) : Option (fiC × fiX) :=
  match s with
  | ⟨[(q0, .func q1 [] [.ptr q2 q3 q4]), (q5, .lst xs), (q6, .int .i64 cnt), (q7, .int .i64 i)], [(q8, ⟨true, true, true, [[.int .i64 s]], q9⟩)]⟩ => bif Nat.beq q0 1 && Nat.beq q1 69 && Nat.beq q2 0 && Nat.beq q3 0 && Nat.beq q4 0 && Nat.beq q5 8 && Nat.beq q6 9 && Nat.beq q7 10 && Nat.beq q8 0 && Nat.beq q9 0 then some (⟨xs, s, cnt⟩, ⟨i⟩) else none
  | _ => none
def fiL (inv : fiC → fiX → fiX → Nat → Prop) : LoopS where
  C := fiC
  X := fiX
  st := fiSt
  un := fiUn
  ok := by
    intro s c x h
    unfold fiUn at h
    split at h
    · simp only [Bool.cond_eq_ite] at h
      split at h
      · rename_i hg
        simp only [Bool.and_eq_true, Nat.beq_eq] at hg
        obtain ⟨⟨⟨⟨⟨⟨⟨⟨⟨rfl, rfl⟩, rfl⟩, rfl⟩, rfl⟩, rfl⟩, rfl⟩, rfl⟩, rfl⟩, rfl⟩ := hg
        cases h
        rfl
      · cases h
    · cases h
  inv := inv

structure fcC where
  xs : List (List V)
  d : Int
  s : List UInt8
  cnt : Int
structure fcX where
  i : Int
def fcSt (c : fcC) (x : fcX) : St := ⟨[(1, .func 68 [] [.ptr 0 0 0, .ptr 1 0 0]), (8, .lst c.xs), (9, .int .i64 c.cnt), (10, .int .i64 x.i)], [(0, ⟨true, true, true, [[.int .i64 c.d]], 0⟩), (1, ⟨true, true, true, [[.str c.s]], 0⟩)]⟩
def fcUn (s : St) : Option (fcC × fcX) :=
  match s with
  | ⟨[(q0, .func q1 [] [.ptr q2 q3 q4, .ptr q5 q6 q7]), (q8, .lst xs), (q9, .int .i64 cnt), (q10, .int .i64 i)], [(q11, ⟨true, true, true, [[.int .i64 d]], q12⟩), (q13, ⟨true, true, true, [[.str s]], q14⟩)]⟩ => bif Nat.beq q0 1 && Nat.beq q1 68 && Nat.beq q2 0 && Nat.beq q3 0 && Nat.beq q4 0 && Nat.beq q5 1 && Nat.beq q6 0 && Nat.beq q7 0 && Nat.beq q8 8 && Nat.beq q9 9 && Nat.beq q10 10 && Nat.beq q11 0 && Nat.beq q12 0 && Nat.beq q13 1 && Nat.beq q14 0 then some (⟨xs, d, s, cnt⟩, ⟨i⟩) else none
  | _ => none
def fcL (inv : fcC → fcX → fcX → Nat → Prop) : LoopS where
  C := fcC
  X := fcX
  st := fcSt
  un := fcUn
  ok := by
    intro s c x h
    unfold fcUn at h
    split at h
    · simp only [Bool.cond_eq_ite] at h
      split at h
      · rename_i hg
        simp only [Bool.and_eq_true, Nat.beq_eq] at hg
        obtain ⟨⟨⟨⟨⟨⟨⟨⟨⟨⟨⟨⟨⟨⟨rfl, rfl⟩, rfl⟩, rfl⟩, rfl⟩, rfl⟩, rfl⟩, rfl⟩, rfl⟩, rfl⟩, rfl⟩, rfl⟩, rfl⟩, rfl⟩, rfl⟩ := hg
        cases h
        rfl
      · cases h
    · cases h
  inv := inv

structure riC where
  s : Int
  next : Int
  xs : List (List V)
structure riX where
  i : Int
def riSt (c : riC) (x : riX) : St := ⟨[(1, .int .i64 c.s), (2, .ptr 0 0 0), (5, .int .i64 x.i)], [(0, ⟨true, true, true, [[.int .i64 c.next, .lst c.xs]], 0⟩)]⟩
def riUn (s : St) : Option (riC × riX) :=
  match s with
  | ⟨[(q0, .int .i64 s), (q1, .ptr q2 q3 q4), (q5, .int .i64 i)], [(q6, ⟨true, true, true, [[.int .i64 next, .lst xs]], q7⟩)]⟩ => bif Nat.beq q0 1 && Nat.beq q1 2 && Nat.beq q2 0 && Nat.beq q3 0 && Nat.beq q4 0 && Nat.beq q5 5 && Nat.beq q6 0 && Nat.beq q7 0 then some (⟨s, next, xs⟩, ⟨i⟩) else none
  | _ => none
def riL (inv : riC → riX → riX → Nat → Prop) : LoopS where
  C := riC
  X := riX
  st := riSt
  un := riUn
  ok := by
    intro s c x h
    unfold riUn at h
    split at h
    · simp only [Bool.cond_eq_ite] at h
      split at h
      · rename_i hg
        simp only [Bool.and_eq_true, Nat.beq_eq] at hg
        obtain ⟨⟨⟨⟨⟨⟨⟨rfl, rfl⟩, rfl⟩, rfl⟩, rfl⟩, rfl⟩, rfl⟩, rfl⟩ := hg
        cases h
        rfl
      · cases h
    · cases h
  inv := inv

structure rfC where
  d : Int
  s : List UInt8
  next : Int
  xs : List (List V)
structure rfX where
  i : Int
def rfSt (c : rfC) (x : rfX) : St := ⟨[(1, .int .i64 c.d), (2, .str c.s), (3, .ptr 0 0 0), (10, .int .i64 x.i)], [(0, ⟨true, true, true, [[.int .i64 c.next, .lst c.xs]], 0⟩)]⟩
def rfUn (s : St) : Option (rfC × rfX) :=
  match s with
  | ⟨[(q0, .int .i64 d), (q1, .str s), (q2, .ptr q3 q4 q5), (q6, .int .i64 i)], [(q7, ⟨true, true, true, [[.int .i64 next, .lst xs]], q8⟩)]⟩ => bif Nat.beq q0 1 && Nat.beq q1 2 && Nat.beq q2 3 && Nat.beq q3 0 && Nat.beq q4 0 && Nat.beq q5 0 && Nat.beq q6 10 && Nat.beq q7 0 && Nat.beq q8 0 then some (⟨d, s, next, xs⟩, ⟨i⟩) else none
  | _ => none
def rfL (inv : rfC → rfX → rfX → Nat → Prop) : LoopS where
  C := rfC
  X := rfX
  st := rfSt
  un := rfUn
  ok := by
    intro s c x h
    unfold rfUn at h
    split at h
    · simp only [Bool.cond_eq_ite] at h
      split at h
      · rename_i hg
        simp only [Bool.and_eq_true, Nat.beq_eq] at hg
        obtain ⟨⟨⟨⟨⟨⟨⟨⟨rfl, rfl⟩, rfl⟩, rfl⟩, rfl⟩, rfl⟩, rfl⟩, rfl⟩, rfl⟩ := hg
        cases h
        rfl
      · cases h
    · cases h
  inv := inv

structure chC where
  d : Int
  xs : List (List V)
  cnt : Int
structure chX where
  n : Nat
  m : Nat
  ys : List (List V)
  i : Int
def chSt (c : chC) (x : chX) : St := ⟨[(1, .int .i64 c.d), (5, .ref 0 0 x.n x.m), (13, .lst c.xs), (14, .int .i64 c.cnt), (15, .int .i64 x.i)], [(0, ⟨true, false, true, x.ys, 0⟩)]⟩
def chUn (s : St) : Option (chC × chX) :=
  match s with
  | ⟨[(q0, .int .i64 d), (q1, .ref q2 q3 n m), (q4, .lst xs), (q5, .int .i64 cnt), (q6, .int .i64 i)], [(q7, ⟨true, false, true, ys, q8⟩)]⟩ => bif Nat.beq q0 1 && Nat.beq q1 5 && Nat.beq q2 0 && Nat.beq q3 0 && Nat.beq q4 13 && Nat.beq q5 14 && Nat.beq q6 15 && Nat.beq q7 0 && Nat.beq q8 0 then some (⟨d, xs, cnt⟩, ⟨n, m, ys, i⟩) else none
  | _ => none
def chL (inv : chC → chX → chX → Nat → Prop) : LoopS where
  C := chC
  X := chX
  st := chSt
  un := chUn
  ok := by
    intro s c x h
    unfold chUn at h
    split at h
    · simp only [Bool.cond_eq_ite] at h
      split at h
      · rename_i hg
        simp only [Bool.and_eq_true, Nat.beq_eq] at hg
        obtain ⟨⟨⟨⟨⟨⟨⟨⟨rfl, rfl⟩, rfl⟩, rfl⟩, rfl⟩, rfl⟩, rfl⟩, rfl⟩, rfl⟩ := hg
        cases h
        rfl
      · cases h
    · cases h
  inv := inv

structure rcC where
  d : Int
  next : Int
  xs : List (List V)
structure rcX where
  n : Nat
  m : Nat
  ys : List (List V)
  i : Int
def rcSt (c : rcC) (x : rcX) : St := ⟨[(1, .int .i64 c.d), (2, .ptr 0 0 0), (5, .ref 1 0 x.n x.m), (6, .int .i64 x.i)], [(0, ⟨true, true, true, [[.int .i64 c.next, .lst c.xs]], 0⟩), (1, ⟨true, false, true, x.ys, 0⟩)]⟩
def rcUn (s : St) : Option (rcC × rcX) :=
  match s with
  | ⟨[(q0, .int .i64 d), (q1, .ptr q2 q3 q4), (q5, .ref q6 q7 n m), (q8, .int .i64 i)], [(q9, ⟨true, true, true, [[.int .i64 next, .lst xs]], q10⟩), (q11, ⟨true, false, true, ys, q12⟩)]⟩ => bif Nat.beq q0 1 && Nat.beq q1 2 && Nat.beq q2 0 && Nat.beq q3 0 && Nat.beq q4 0 && Nat.beq q5 5 && Nat.beq q6 1 && Nat.beq q7 0 && Nat.beq q8 6 && Nat.beq q9 0 && Nat.beq q10 0 && Nat.beq q11 1 && Nat.beq q12 0 then some (⟨d, next, xs⟩, ⟨n, m, ys, i⟩) else none
  | _ => none
def rcL (inv : rcC → rcX → rcX → Nat → Prop) : LoopS where
  C := rcC
  X := rcX
  st := rcSt
  un := rcUn
  ok := by
    intro s c x h
    unfold rcUn at h
    split at h
    · simp only [Bool.cond_eq_ite] at h
      split at h
      · rename_i hg
        simp only [Bool.and_eq_true, Nat.beq_eq] at hg
        obtain ⟨⟨⟨⟨⟨⟨⟨⟨⟨⟨⟨⟨rfl, rfl⟩, rfl⟩, rfl⟩, rfl⟩, rfl⟩, rfl⟩, rfl⟩, rfl⟩, rfl⟩, rfl⟩, rfl⟩, rfl⟩ := hg
        cases h
        rfl
      · cases h
    · cases h
  inv := inv

structure paC where
  next : Int
  xs : List (List V)
structure paX where
  x0 : Int
  x1 : Int
  x2 : Int
  x3 : List UInt8
  x4 : Int
  x5 : List UInt8
  x6 : List UInt8
  x7 : List UInt8
  x8 : Int
  x9 : Int
  x10 : List UInt8
  ok : Bool
  p : List UInt8
  i : Int
def paSt (c : paC) (x : paX) : St := ⟨[(2, .ptr 0 0 0), (6, .ptr 1 0 0), (7, .bool x.ok), (8, .str x.p), (9, .int .i64 x.i)], [(0, ⟨true, true, true, [[.int .i64 c.next, .lst c.xs]], 0⟩), (1, ⟨true, true, true, [[.int .i64 x.x0, .int .i64 x.x1, .int .i64 x.x2, .str x.x3, .int .i64 x.x4, .str x.x5, .str x.x6, .str x.x7, .int .i64 x.x8, .int .i64 x.x9, .str x.x10]], 0⟩)]⟩
def paUn (s : St) : Option (paC × paX) :=
  match s with
  | ⟨[(q0, .ptr q1 q2 q3), (q4, .ptr q5 q6 q7), (q8, .bool ok), (q9, .str p), (q10, .int .i64 i)], [(q11, ⟨true, true, true, [[.int .i64 next, .lst xs]], q12⟩), (q13, ⟨true, true, true, [[.int .i64 x0, .int .i64 x1, .int .i64 x2, .str x3, .int .i64 x4, .str x5, .str x6, .str x7, .int .i64 x8, .int .i64 x9, .str x10]], q14⟩)]⟩ => bif Nat.beq q0 2 && Nat.beq q1 0 && Nat.beq q2 0 && Nat.beq q3 0 && Nat.beq q4 6 && Nat.beq q5 1 && Nat.beq q6 0 && Nat.beq q7 0 && Nat.beq q8 7 && Nat.beq q9 8 && Nat.beq q10 9 && Nat.beq q11 0 && Nat.beq q12 0 && Nat.beq q13 1 && Nat.beq q14 0 then some (⟨next, xs⟩, ⟨x0, x1, x2, x3, x4, x5, x6, x7, x8, x9, x10, ok, p, i⟩) else none
  | _ => none
def paL (inv : paC → paX → paX → Nat → Prop) : LoopS where
  C := paC
  X := paX
  st := paSt
  un := paUn
  ok := by
    intro s c x h
    unfold paUn at h
    split at h
    · simp only [Bool.cond_eq_ite] at h
      split at h
      · rename_i hg
        simp only [Bool.and_eq_true, Nat.beq_eq] at hg
        obtain ⟨⟨⟨⟨⟨⟨⟨⟨⟨⟨⟨⟨⟨⟨rfl, rfl⟩, rfl⟩, rfl⟩, rfl⟩, rfl⟩, rfl⟩, rfl⟩, rfl⟩, rfl⟩, rfl⟩, rfl⟩, rfl⟩, rfl⟩, rfl⟩ := hg
        cases h
        rfl
      · cases h
    · cases h
  inv := inv

structure rpC where
  next : Int
  xs : List (List V)
structure rpX where
  x0 : Int
  x1 : Int
  x2 : Int
  x3 : List UInt8
  x4 : Int
  x5 : List UInt8
  x6 : List UInt8
  x7 : List UInt8
  x8 : Int
  x9 : Int
  x10 : List UInt8
  p : List UInt8
  i : Int
def rpSt (c : rpC) (x : rpX) : St := ⟨[(2, .ptr 0 0 0), (6, .ptr 1 0 0), (8, .str x.p), (9, .int .i64 x.i)], [(0, ⟨true, true, true, [[.int .i64 c.next, .lst c.xs]], 0⟩), (1, ⟨true, true, true, [[.int .i64 x.x0, .int .i64 x.x1, .int .i64 x.x2, .str x.x3, .int .i64 x.x4, .str x.x5, .str x.x6, .str x.x7, .int .i64 x.x8, .int .i64 x.x9, .str x.x10]], 0⟩)]⟩
def rpUn (s : St) : Option (rpC × rpX) :=
  match s with
  | ⟨[(q0, .ptr q1 q2 q3), (q4, .ptr q5 q6 q7), (q8, .str p), (q9, .int .i64 i)], [(q10, ⟨true, true, true, [[.int .i64 next, .lst xs]], q11⟩), (q12, ⟨true, true, true, [[.int .i64 x0, .int .i64 x1, .int .i64 x2, .str x3, .int .i64 x4, .str x5, .str x6, .str x7, .int .i64 x8, .int .i64 x9, .str x10]], q13⟩)]⟩ => bif Nat.beq q0 2 && Nat.beq q1 0 && Nat.beq q2 0 && Nat.beq q3 0 && Nat.beq q4 6 && Nat.beq q5 1 && Nat.beq q6 0 && Nat.beq q7 0 && Nat.beq q8 8 && Nat.beq q9 9 && Nat.beq q10 0 && Nat.beq q11 0 && Nat.beq q12 1 && Nat.beq q13 0 then some (⟨next, xs⟩, ⟨x0, x1, x2, x3, x4, x5, x6, x7, x8, x9, x10, p, i⟩) else none
  | _ => none
def rpL (inv : rpC → rpX → rpX → Nat → Prop) : LoopS where
  C := rpC
  X := rpX
  st := rpSt
  un := rpUn
  ok := by
    intro s c x h
    unfold rpUn at h
    split at h
    · simp only [Bool.cond_eq_ite] at h
      split at h
      · rename_i hg
        simp only [Bool.and_eq_true, Nat.beq_eq] at hg
        obtain ⟨⟨⟨⟨⟨⟨⟨⟨⟨⟨⟨⟨⟨rfl, rfl⟩, rfl⟩, rfl⟩, rfl⟩, rfl⟩, rfl⟩, rfl⟩, rfl⟩, rfl⟩, rfl⟩, rfl⟩, rfl⟩, rfl⟩ := hg
        cases h
        rfl
      · cases h
    · cases h
  inv := inv

theorem fi_vc (next : Int) (xs : List (List V)) (s : Int) (I : fiC → fiX → fiX → Nat → Prop) (K : V → List Bk → Prop) : vcF Try.prog cfgN (ctOf [(69, inlC Try.prog cfgN (ctOf []) 69)]) (lpOf [(2, fiL I)]) 67 [.agg [.int .i64 next, .lst xs], .func 69 [] [.ptr 0 0 0]] [⟨true, true, true, [[.int .i64 s]], 0⟩] K = (
  (∃ m5 : Nat, (((m5 : Nat) < 18446744073709551616)) ∧ (
  I (fiC.mk xs s (lenL xs)) (fiX.mk 0) (fiX.mk 0) m5)) ∧ (
  ∀ x5 : (fiL I).X, ∀ m6 : Nat, (I (fiC.mk xs s (lenL xs)) (fiX.mk 0) x5 m6) → (
  br (ltI x5.1 (lenL xs)) (
    need (andB (leI 0 x5.1) (ltI x5.1 (lenL xs))) (
    need (okRow xs x5.1.toNat 11) (
    ∃ n7 : Int, ∃ n8 : Int, ∃ n9 : Int, ∃ s10 : List UInt8, ∃ n11 : Int, ∃ s12 : List UInt8, ∃ s13 : List UInt8, ∃ s14 : List UInt8, ∃ n15 : Int, ∃ n16 : Int, ∃ s17 : List UInt8, ((sub (rowAt xs x5.1) 0 11 : Option (List V)) = some [V.int IntKind.i64 n7, V.int IntKind.i64 n8, V.int IntKind.i64 n9, V.str s10, V.int IntKind.i64 n11, V.str s12, V.str s13, V.str s14, V.int IntKind.i64 n15, V.int IntKind.i64 n16, V.str s17]) ∧ (
    br (eqI n7 s) (
      K (V.int IntKind.i64 x5.1) [Bk.mk true true true [[V.int IntKind.i64 s]] 0]) (
      ((fiC.mk xs s (lenL xs) : (fiL I).C) = fiC.mk xs s (lenL xs)) ∧ (
      ∃ m'18 : Nat, (((m'18 : Nat) < m6)) ∧ (
      I (fiC.mk xs s (lenL xs)) (fiX.mk 0) (fiX.mk (addI IntKind.i64 x5.1 1)) m'18))))))) (
    K (V.int IntKind.i64 (-1)) [Bk.mk true true true [[V.int IntKind.i64 s]] 0])))) := by kernel_rfl

theorem fc_vc (next : Int) (xs : List (List V)) (d : Int) (s : List UInt8) (I : fcC → fcX → fcX → Nat → Prop) (K : V → List Bk → Prop) : vcF Try.prog cfgN (ctOf [(68, inlC Try.prog cfgN (ctOf []) 68)]) (lpOf [(2, fcL I)]) 67 [.agg [.int .i64 next, .lst xs], .func 68 [] [.ptr 0 0 0, .ptr 1 0 0]] [⟨true, true, true, [[.int .i64 d]], 0⟩, ⟨true, true, true, [[.str s]], 0⟩] K = (
  (∃ m6 : Nat, (((m6 : Nat) < 18446744073709551616)) ∧ (
  I (fcC.mk xs d s (lenL xs)) (fcX.mk 0) (fcX.mk 0) m6)) ∧ (
  ∀ x6 : (fcL I).X, ∀ m7 : Nat, (I (fcC.mk xs d s (lenL xs)) (fcX.mk 0) x6 m7) → (
  br (ltI x6.1 (lenL xs)) (
    need (andB (leI 0 x6.1) (ltI x6.1 (lenL xs))) (
    need (okRow xs x6.1.toNat 11) (
    ∃ n8 : Int, ∃ n9 : Int, ∃ n10 : Int, ∃ s11 : List UInt8, ∃ n12 : Int, ∃ s13 : List UInt8, ∃ s14 : List UInt8, ∃ s15 : List UInt8, ∃ n16 : Int, ∃ n17 : Int, ∃ s18 : List UInt8, ((sub (rowAt xs x6.1) 0 11 : Option (List V)) = some [V.int IntKind.i64 n8, V.int IntKind.i64 n9, V.int IntKind.i64 n10, V.str s11, V.int IntKind.i64 n12, V.str s13, V.str s14, V.str s15, V.int IntKind.i64 n16, V.int IntKind.i64 n17, V.str s18]) ∧ (
    br (eqI n9 d) (
      br (notB (eqI n8 1)) (
        br (eqS s11 s) (
          K (V.int IntKind.i64 x6.1) [Bk.mk true true true [[V.int IntKind.i64 d]] 0, Bk.mk true true true [[V.str s]] 0]) (
          ((fcC.mk xs d s (lenL xs) : (fcL I).C) = fcC.mk xs d s (lenL xs)) ∧ (
          ∃ m'19 : Nat, (((m'19 : Nat) < m7)) ∧ (
          I (fcC.mk xs d s (lenL xs)) (fcX.mk 0) (fcX.mk (addI IntKind.i64 x6.1 1)) m'19)))) (
        ((fcC.mk xs d s (lenL xs) : (fcL I).C) = fcC.mk xs d s (lenL xs)) ∧ (
        ∃ m'19 : Nat, (((m'19 : Nat) < m7)) ∧ (
        I (fcC.mk xs d s (lenL xs)) (fcX.mk 0) (fcX.mk (addI IntKind.i64 x6.1 1)) m'19)))) (
      ((fcC.mk xs d s (lenL xs) : (fcL I).C) = fcC.mk xs d s (lenL xs)) ∧ (
      ∃ m'19 : Nat, (((m'19 : Nat) < m7)) ∧ (
      I (fcC.mk xs d s (lenL xs)) (fcX.mk 0) (fcX.mk (addI IntKind.i64 x6.1 1)) m'19))))))) (
    K (V.int IntKind.i64 (-1)) [Bk.mk true true true [[V.int IntKind.i64 d]] 0, Bk.mk true true true [[V.str s]] 0])))) := by kernel_rfl

theorem ix_vc (next : Int) (xs : List (List V)) (s : Int) (K : V → List Bk → Prop) : vcF Try.prog cfgN (ctOf [(67, fiCon)]) (lpOf []) 53 [.agg [.int .i64 next, .lst xs], .int .i64 s] [] K = (
  ∃ l4 : List Node, ((xs : List (List V)) = nodeV l4) ∧ (
  (((l4.length : Nat) ≤ 100000)) ∧ (
  K (V.int IntKind.i64 (fidx (idP s) l4)) []))) := by kernel_rfl

theorem cx_vc (next : Int) (xs : List (List V)) (d : Int) (s : List UInt8) (K : V → List Bk → Prop) : vcF Try.prog cfgN (ctOf [(67, fcCon)]) (lpOf []) 52 [.agg [.int .i64 next, .lst xs], .int .i64 d, .str s] [] K = (
  ∃ l5 : List Node, ((xs : List (List V)) = nodeV l5) ∧ (
  (((l5.length : Nat) ≤ 100000)) ∧ (
  K (V.int IntKind.i64 (fidx (chP d s) l5)) []))) := by kernel_rfl

theorem ri_vc (next : Int) (xs : List (List V)) (s : Int) (I : riC → riX → riX → Nat → Prop) (K : V → List Bk → Prop) : vcF Try.prog cfgN (ctOf []) (lpOf [(2, riL I)]) 46 [.agg [.int .i64 next, .lst xs], .int .i64 s] [] K = (
  (∃ m5 : Nat, (((m5 : Nat) < 18446744073709551616)) ∧ (
  I (riC.mk s next xs) (riX.mk 0) (riX.mk 0) m5)) ∧ (
  ∀ x5 : (riL I).X, ∀ m6 : Nat, (I (riC.mk s next xs) (riX.mk 0) x5 m6) → (
  br (ltI x5.1 (lenL xs)) (
    need (andB (leI 0 x5.1) (ltI x5.1 (lenL xs))) (
    need (okRow xs x5.1.toNat 11) (
    ∃ n7 : Int, ((sub (rowAt xs x5.1) 0 1 : Option (List V)) = some [V.int IntKind.i64 n7]) ∧ (
    br (eqI n7 s) (
      K (V.int IntKind.i64 x5.1) []) (
      ((riC.mk s next xs : (riL I).C) = riC.mk s next xs) ∧ (
      ∃ m'8 : Nat, (((m'8 : Nat) < m6)) ∧ (
      I (riC.mk s next xs) (riX.mk 0) (riX.mk (addI IntKind.i64 x5.1 1)) m'8))))))) (
    K (V.int IntKind.i64 (-1)) [])))) := by kernel_rfl

theorem no_vc (next : Int) (xs : List (List V)) (s : Int) (K : V → List Bk → Prop) : vcF Try.prog cfgN (ctOf [(53, indexCon)]) (lpOf []) 26 [.agg [.int .i64 next, .lst xs], .int .i64 s] [] K = (
  ∃ l4 : List Node, ((xs : List (List V)) = nodeV l4) ∧ (
  (((l4.length : Nat) ≤ 100000)) ∧ (
  br (ltI (fidx (idP s) l4) 0) (
    K (V.tup [V.agg [V.int IntKind.i64 0, V.int IntKind.i64 0, V.int IntKind.i64 0, V.str [], V.int IntKind.i64 0, V.str [], V.str [], V.str [], V.int IntKind.i64 0, V.int IntKind.i64 0, V.str []], V.bool false]) []) (
    need (andB (leI 0 (fidx (idP s) l4)) (ltI (fidx (idP s) l4) (lenL xs))) (
    need (okRow xs (fidx (idP s) l4).toNat 11) (
    ∃ n5 : Int, ∃ n6 : Int, ∃ n7 : Int, ∃ s8 : List UInt8, ∃ n9 : Int, ∃ s10 : List UInt8, ∃ s11 : List UInt8, ∃ s12 : List UInt8, ∃ n13 : Int, ∃ n14 : Int, ∃ s15 : List UInt8, ((sub (rowAt xs (fidx (idP s) l4)) 0 11 : Option (List V)) = some [V.int IntKind.i64 n5, V.int IntKind.i64 n6, V.int IntKind.i64 n7, V.str s8, V.int IntKind.i64 n9, V.str s10, V.str s11, V.str s12, V.int IntKind.i64 n13, V.int IntKind.i64 n14, V.str s15]) ∧ (
    K (V.tup [V.agg [V.int IntKind.i64 n5, V.int IntKind.i64 n6, V.int IntKind.i64 n7, V.str s8, V.int IntKind.i64 n9, V.str s10, V.str s11, V.str s12, V.int IntKind.i64 n13, V.int IntKind.i64 n14, V.str s15], V.bool true]) []))))))) := by kernel_rfl

theorem rno_vc (next : Int) (xs : List (List V)) (s : Int) (K : V → List Bk → Prop) : vcF Try.prog cfgN (ctOf [(46, indexCon)]) (lpOf []) 21 [.agg [.int .i64 next, .lst xs], .int .i64 s] [] K = (
  ∃ l4 : List Node, ((xs : List (List V)) = nodeV l4) ∧ (
  (((l4.length : Nat) ≤ 100000)) ∧ (
  br (ltI (fidx (idP s) l4) 0) (
    K (V.tup [V.agg [V.int IntKind.i64 0, V.int IntKind.i64 0, V.int IntKind.i64 0, V.str [], V.int IntKind.i64 0, V.str [], V.str [], V.str [], V.int IntKind.i64 0, V.int IntKind.i64 0, V.str []], V.bool false]) []) (
    need (andB (leI 0 (fidx (idP s) l4)) (ltI (fidx (idP s) l4) (lenL xs))) (
    need (okRow xs (fidx (idP s) l4).toNat 11) (
    ∃ n5 : Int, ∃ n6 : Int, ∃ n7 : Int, ∃ s8 : List UInt8, ∃ n9 : Int, ∃ s10 : List UInt8, ∃ s11 : List UInt8, ∃ s12 : List UInt8, ∃ n13 : Int, ∃ n14 : Int, ∃ s15 : List UInt8, ((sub (rowAt xs (fidx (idP s) l4)) 0 11 : Option (List V)) = some [V.int IntKind.i64 n5, V.int IntKind.i64 n6, V.int IntKind.i64 n7, V.str s8, V.int IntKind.i64 n9, V.str s10, V.str s11, V.str s12, V.int IntKind.i64 n13, V.int IntKind.i64 n14, V.str s15]) ∧ (
    K (V.tup [V.agg [V.int IntKind.i64 n5, V.int IntKind.i64 n6, V.int IntKind.i64 n7, V.str s8, V.int IntKind.i64 n9, V.str s10, V.str s11, V.str s12, V.int IntKind.i64 n13, V.int IntKind.i64 n14, V.str s15], V.bool true]) []))))))) := by kernel_rfl

theorem wi_vc (next : Int) (xs : List (List V)) (s : Int) (K : V → List Bk → Prop) : vcF Try.prog cfgN (ctOf [(26, nodeCon), (39, intCon dirB)]) (lpOf []) 51 [.agg [.int .i64 next, .lst xs], .int .i64 s] [] K = (
  ∃ l4 : List Node, ((xs : List (List V)) = nodeV l4) ∧ (
  (((l4.length : Nat) ≤ 100000)) ∧ (
  br (notB (hasB l4 s)) (
    K (V.int IntKind.i64 8) []) (
    ((((nodeF l4 s).5 : Int) ≤ 9223372036854775807)) ∧ (
    br (notB (dirB (nodeF l4 s).5)) (
      K (V.int IntKind.i64 9) []) (
      K (V.int IntKind.i64 0) [])))))) := by kernel_rfl

theorem fd_vc (next : Int) (xs : List (List V)) (d : Int) (s : List UInt8) (K : V → List Bk → Prop) : vcF Try.prog cfgN (ctOf [(26, nodeCon), (51, withinCon), (52, childCon)]) (lpOf []) 25 [.agg [.int .i64 next, .lst xs], .int .i64 d, .str s] [] K = (
  ∃ l5 : List Node, ((xs : List (List V)) = nodeV l5) ∧ (
  (((l5.length : Nat) ≤ 100000)) ∧ (
  ((((nodeF l5 d).5 : Int) ≤ 9223372036854775807)) ∧ (
  br (notB (eqI (withinF l5 d) 0)) (
    K (V.tup [V.int IntKind.i64 0, V.int IntKind.i64 (withinF l5 d)]) []) (
    br (eqS s [46, 46]) (
      ∃ l6 : List Node, ((xs : List (List V)) = nodeV l6) ∧ (
      (((l6.length : Nat) ≤ 100000)) ∧ (
      K (V.tup [V.int IntKind.i64 (nodeF l6 d).2, V.int IntKind.i64 0]) []))) (
      ∃ l6 : List Node, ((xs : List (List V)) = nodeV l6) ∧ (
      (((l6.length : Nat) ≤ 100000)) ∧ (
      br (ltI (fidx (chP d s) l6) 0) (
        K (V.tup [V.int IntKind.i64 0, V.int IntKind.i64 8]) []) (
        need (andB (leI 0 (fidx (chP d s) l6)) (ltI (fidx (chP d s) l6) (lenL xs))) (
        need (okRow xs (fidx (chP d s) l6).toNat 11) (
        ∃ n7 : Int, ((sub (rowAt xs (fidx (chP d s) l6)) 0 1 : Option (List V)) = some [V.int IntKind.i64 n7]) ∧ (
        K (V.tup [V.int IntKind.i64 n7, V.int IntKind.i64 0]) [])))))))))))) := by kernel_rfl

theorem rfd_vc (next : Int) (xs : List (List V)) (d : Int) (s : List UInt8) (I : rfC → rfX → rfX → Nat → Prop) (K : V → List Bk → Prop) : vcF Try.prog cfgN (ctOf [(21, nodeCon), (43, intCon isDirB)]) (lpOf [(9, rfL I)]) 27 [.agg [.int .i64 next, .lst xs], .int .i64 d, .str s] [] K = (
  ∃ l6 : List Node, ((xs : List (List V)) = nodeV l6) ∧ (
  (((l6.length : Nat) ≤ 100000)) ∧ (
  br (notB (hasB l6 d)) (
    K (V.tup [V.int IntKind.i64 0, V.int IntKind.i64 8]) []) (
    ((((nodeF l6 d).5 : Int) ≤ 9223372036854775807)) ∧ (
    br (notB (isDirB (nodeF l6 d).5)) (
      K (V.tup [V.int IntKind.i64 0, V.int IntKind.i64 9]) []) (
      br (eqS s [46, 46]) (
        K (V.tup [V.int IntKind.i64 (nodeF l6 d).2, V.int IntKind.i64 0]) []) (
        (∃ m7 : Nat, (((m7 : Nat) < 18446744073709551616)) ∧ (
        I (rfC.mk d s next xs) (rfX.mk 1) (rfX.mk 1) m7)) ∧ (
        ∀ x7 : (rfL I).X, ∀ m8 : Nat, (I (rfC.mk d s next xs) (rfX.mk 1) x7 m8) → (
        br (ltI x7.1 (lenL xs)) (
          need (andB (leI 0 x7.1) (ltI x7.1 (lenL xs))) (
          need (okRow xs x7.1.toNat 11) (
          ∃ n9 : Int, ((sub (rowAt xs x7.1) 1 1 : Option (List V)) = some [V.int IntKind.i64 n9]) ∧ (
          br (eqI n9 d) (
            need (andB (leI 0 x7.1) (ltI x7.1 (lenL xs))) (
            need (okRow xs x7.1.toNat 11) (
            ∃ s10 : List UInt8, ((sub (rowAt xs x7.1) 3 1 : Option (List V)) = some [V.str s10]) ∧ (
            br (eqS s10 s) (
              need (andB (leI 0 x7.1) (ltI x7.1 (lenL xs))) (
              need (okRow xs x7.1.toNat 11) (
              ∃ n11 : Int, ((sub (rowAt xs x7.1) 0 1 : Option (List V)) = some [V.int IntKind.i64 n11]) ∧ (
              K (V.tup [V.int IntKind.i64 n11, V.int IntKind.i64 0]) [])))) (
              ((rfC.mk d s next xs : (rfL I).C) = rfC.mk d s next xs) ∧ (
              ∃ m'11 : Nat, (((m'11 : Nat) < m8)) ∧ (
              I (rfC.mk d s next xs) (rfX.mk 1) (rfX.mk (addI IntKind.i64 x7.1 1)) m'11))))))) (
            ((rfC.mk d s next xs : (rfL I).C) = rfC.mk d s next xs) ∧ (
            ∃ m'10 : Nat, (((m'10 : Nat) < m8)) ∧ (
            I (rfC.mk d s next xs) (rfX.mk 1) (rfX.mk (addI IntKind.i64 x7.1 1)) m'10))))))) (
          K (V.tup [V.int IntKind.i64 0, V.int IntKind.i64 8]) [])))))))))) := by kernel_rfl

theorem ch_vc (next : Int) (xs : List (List V)) (d : Int) (I : chC → chX → chX → Nat → Prop) (K : V → List Bk → Prop) : vcF Try.prog cfgN (ctOf [(51, withinCon)]) (lpOf [(5, chL I)]) 29 [.agg [.int .i64 next, .lst xs], .int .i64 d] [] K = (
  ∃ l5 : List Node, ((xs : List (List V)) = nodeV l5) ∧ (
  (((l5.length : Nat) ≤ 100000)) ∧ (
  ((((nodeF l5 d).5 : Int) ≤ 9223372036854775807)) ∧ (
  br (notB (eqI (withinF l5 d) 0)) (
    K (V.lst []) []) (
    (∃ m6 : Nat, (((m6 : Nat) < 18446744073709551616)) ∧ (
    I (chC.mk d xs (lenL xs)) (chX.mk 0 0 [] 0) (chX.mk 0 0 [] 0) m6)) ∧ (
    ∀ x6 : (chL I).X, ∀ m7 : Nat, (I (chC.mk d xs (lenL xs)) (chX.mk 0 0 [] 0) x6 m7) → (
    br (ltI x6.4 (lenL xs)) (
      need (andB (leI 0 x6.4) (ltI x6.4 (lenL xs))) (
      need (okRow xs x6.4.toNat 11) (
      ∃ n8 : Int, ∃ n9 : Int, ∃ n10 : Int, ∃ s11 : List UInt8, ∃ n12 : Int, ∃ s13 : List UInt8, ∃ s14 : List UInt8, ∃ s15 : List UInt8, ∃ n16 : Int, ∃ n17 : Int, ∃ s18 : List UInt8, ((sub (rowAt xs x6.4) 0 11 : Option (List V)) = some [V.int IntKind.i64 n8, V.int IntKind.i64 n9, V.int IntKind.i64 n10, V.str s11, V.int IntKind.i64 n12, V.str s13, V.str s14, V.str s15, V.int IntKind.i64 n16, V.int IntKind.i64 n17, V.str s18]) ∧ (
      br (eqI n9 d) (
        br (notB (eqI n8 1)) (
          need (headOkP 1 x6.3) (
          br (leN (x6.1 + 1) x6.2) (
            ((chC.mk d xs (lenL xs) : (chL I).C) = chC.mk d xs (lenL xs)) ∧ (
            ∃ m'19 : Nat, (((m'19 : Nat) < m7)) ∧ (
            I (chC.mk d xs (lenL xs)) (chX.mk 0 0 [] 0) (chX.mk (x6.1 + 1) x6.2 (List.take (0 + x6.1) x6.3 ++ [[V.int IntKind.i64 n8]] ++ List.drop (0 + x6.1 + 1) x6.3) (addI IntKind.i64 x6.4 1)) m'19))) (
            need (eqN (0 + x6.1) x6.3.length) (
            need (leN ((x6.1 + 1) * 8) 140737488355328) (
            ((chC.mk d xs (lenL xs) : (chL I).C) = chC.mk d xs (lenL xs)) ∧ (
            ∃ m'19 : Nat, (((m'19 : Nat) < m7)) ∧ (
            I (chC.mk d xs (lenL xs)) (chX.mk 0 0 [] 0) (chX.mk (x6.1 + 1) (x6.1 + 1) (List.drop 0 x6.3 ++ [[V.int IntKind.i64 n8]]) (addI IntKind.i64 x6.4 1)) m'19))))))) (
          ((chC.mk d xs (lenL xs) : (chL I).C) = chC.mk d xs (lenL xs)) ∧ (
          ∃ m'19 : Nat, (((m'19 : Nat) < m7)) ∧ (
          I (chC.mk d xs (lenL xs)) (chX.mk 0 0 [] 0) (chX.mk x6.1 x6.2 x6.3 (addI IntKind.i64 x6.4 1)) m'19)))) (
        ((chC.mk d xs (lenL xs) : (chL I).C) = chC.mk d xs (lenL xs)) ∧ (
        ∃ m'19 : Nat, (((m'19 : Nat) < m7)) ∧ (
        I (chC.mk d xs (lenL xs)) (chX.mk 0 0 [] 0) (chX.mk x6.1 x6.2 x6.3 (addI IntKind.i64 x6.4 1)) m'19))))))) (
      K (V.lst (List.take x6.1 (List.drop 0 x6.3))) [])))))))) := by kernel_rfl

theorem rc_vc (next : Int) (xs : List (List V)) (d : Int) (I : rcC → rcX → rcX → Nat → Prop) (K : V → List Bk → Prop) : vcF Try.prog cfgN (ctOf []) (lpOf [(3, rcL I)]) 30 [.agg [.int .i64 next, .lst xs], .int .i64 d] [] K = (
  (∃ m5 : Nat, (((m5 : Nat) < 18446744073709551616)) ∧ (
  I (rcC.mk d next xs) (rcX.mk 0 0 [] 1) (rcX.mk 0 0 [] 1) m5)) ∧ (
  ∀ x5 : (rcL I).X, ∀ m6 : Nat, (I (rcC.mk d next xs) (rcX.mk 0 0 [] 1) x5 m6) → (
  br (ltI x5.4 (lenL xs)) (
    need (andB (leI 0 x5.4) (ltI x5.4 (lenL xs))) (
    need (okRow xs x5.4.toNat 11) (
    ∃ n7 : Int, ((sub (rowAt xs x5.4) 1 1 : Option (List V)) = some [V.int IntKind.i64 n7]) ∧ (
    br (eqI n7 d) (
      need (andB (leI 0 x5.4) (ltI x5.4 (lenL xs))) (
      need (okRow xs x5.4.toNat 11) (
      ∃ n8 : Int, ((sub (rowAt xs x5.4) 0 1 : Option (List V)) = some [V.int IntKind.i64 n8]) ∧ (
      need (headOkP 1 x5.3) (
      br (leN (x5.1 + 1) x5.2) (
        ((rcC.mk d next xs : (rcL I).C) = rcC.mk d next xs) ∧ (
        ∃ m'9 : Nat, (((m'9 : Nat) < m6)) ∧ (
        I (rcC.mk d next xs) (rcX.mk 0 0 [] 1) (rcX.mk (x5.1 + 1) x5.2 (List.take (0 + x5.1) x5.3 ++ [[V.int IntKind.i64 n8]] ++ List.drop (0 + x5.1 + 1) x5.3) (addI IntKind.i64 x5.4 1)) m'9))) (
        need (eqN (0 + x5.1) x5.3.length) (
        need (leN ((x5.1 + 1) * 8) 140737488355328) (
        ((rcC.mk d next xs : (rcL I).C) = rcC.mk d next xs) ∧ (
        ∃ m'9 : Nat, (((m'9 : Nat) < m6)) ∧ (
        I (rcC.mk d next xs) (rcX.mk 0 0 [] 1) (rcX.mk (x5.1 + 1) (x5.1 + 1) (List.drop 0 x5.3 ++ [[V.int IntKind.i64 n8]]) (addI IntKind.i64 x5.4 1)) m'9)))))))))) (
      ((rcC.mk d next xs : (rcL I).C) = rcC.mk d next xs) ∧ (
      ∃ m'8 : Nat, (((m'8 : Nat) < m6)) ∧ (
      I (rcC.mk d next xs) (rcX.mk 0 0 [] 1) (rcX.mk x5.1 x5.2 x5.3 (addI IntKind.i64 x5.4 1)) m'8))))))) (
    K (V.lst (List.take x5.1 (List.drop 0 x5.3))) [])))) := by kernel_rfl

theorem pa_vc (next : Int) (xs : List (List V)) (s : Int) (I : paC → paX → paX → Nat → Prop) (K : V → List Bk → Prop) : vcF Try.prog cfgN (ctOf [(26, nodeCon)]) (lpOf [(8, paL I)]) 23 [.agg [.int .i64 next, .lst xs], .int .i64 s] [] K = (
  ∃ l5 : List Node, ((xs : List (List V)) = nodeV l5) ∧ (
  (((l5.length : Nat) ≤ 100000)) ∧ (
  br (notB (hasB l5 s)) (
    K (V.tup [V.str [], V.int IntKind.i64 8]) []) (
    br (eqI s 1) (
      K (V.tup [V.str [47], V.int IntKind.i64 0]) []) (
      (∃ m6 : Nat, (((m6 : Nat) < 18446744073709551616)) ∧ (
      I (paC.mk next xs) (paX.mk (nodeF l5 s).1 (nodeF l5 s).2 (nodeF l5 s).3 (nodeF l5 s).4 (nodeF l5 s).5 (nodeF l5 s).6 (nodeF l5 s).7 (nodeF l5 s).8 (nodeF l5 s).9 (nodeF l5 s).10 (nodeF l5 s).11 (hasB l5 s) [] 0) (paX.mk (nodeF l5 s).1 (nodeF l5 s).2 (nodeF l5 s).3 (nodeF l5 s).4 (nodeF l5 s).5 (nodeF l5 s).6 (nodeF l5 s).7 (nodeF l5 s).8 (nodeF l5 s).9 (nodeF l5 s).10 (nodeF l5 s).11 (hasB l5 s) [] 0) m6)) ∧ (
      ∀ x6 : (paL I).X, ∀ m7 : Nat, (I (paC.mk next xs) (paX.mk (nodeF l5 s).1 (nodeF l5 s).2 (nodeF l5 s).3 (nodeF l5 s).4 (nodeF l5 s).5 (nodeF l5 s).6 (nodeF l5 s).7 (nodeF l5 s).8 (nodeF l5 s).9 (nodeF l5 s).10 (nodeF l5 s).11 (hasB l5 s) [] 0) x6 m7) → (
      br (notB (eqI x6.1 1)) (
        br (x6.12) (
          br (leI x6.14 (lenL xs)) (
            need (catOk [47] x6.4) (
            need (catOk (47 :: x6.4) x6.13) (
            ∃ l8 : List Node, ((xs : List (List V)) = nodeV l8) ∧ (
            (((l8.length : Nat) ≤ 100000)) ∧ (
            ((paC.mk next xs : (paL I).C) = paC.mk next xs) ∧ (
            ∃ m'9 : Nat, (((m'9 : Nat) < m7)) ∧ (
            I (paC.mk next xs) (paX.mk (nodeF l5 s).1 (nodeF l5 s).2 (nodeF l5 s).3 (nodeF l5 s).4 (nodeF l5 s).5 (nodeF l5 s).6 (nodeF l5 s).7 (nodeF l5 s).8 (nodeF l5 s).9 (nodeF l5 s).10 (nodeF l5 s).11 (hasB l5 s) [] 0) (paX.mk (nodeF l8 x6.x1).1 (nodeF l8 x6.x1).2 (nodeF l8 x6.x1).3 (nodeF l8 x6.x1).4 (nodeF l8 x6.x1).5 (nodeF l8 x6.x1).6 (nodeF l8 x6.x1).7 (nodeF l8 x6.x1).8 (nodeF l8 x6.x1).9 (nodeF l8 x6.x1).10 (nodeF l8 x6.x1).11 (hasB l8 x6.2) (47 :: catS x6.4 x6.13) (addI IntKind.i64 x6.14 1)) m'9))))))) (
            K (V.tup [V.str x6.13, V.int IntKind.i64 0]) [])) (
          K (V.tup [V.str x6.13, V.int IntKind.i64 0]) [])) (
        K (V.tup [V.str x6.13, V.int IntKind.i64 0]) [])))))))) := by kernel_rfl

theorem rp_vc (next : Int) (xs : List (List V)) (s : Int) (I : rpC → rpX → rpX → Nat → Prop) (K : V → List Bk → Prop) : vcF Try.prog cfgN (ctOf [(21, nodeCon)]) (lpOf [(6, rpL I)]) 28 [.agg [.int .i64 next, .lst xs], .int .i64 s] [] K = (
  ∃ l5 : List Node, ((xs : List (List V)) = nodeV l5) ∧ (
  (((l5.length : Nat) ≤ 100000)) ∧ (
  br (notB (hasB l5 s)) (
    K (V.tup [V.str [], V.int IntKind.i64 8]) []) (
    (∃ m6 : Nat, (((m6 : Nat) < 18446744073709551616)) ∧ (
    I (rpC.mk next xs) (rpX.mk (nodeF l5 s).1 (nodeF l5 s).2 (nodeF l5 s).3 (nodeF l5 s).4 (nodeF l5 s).5 (nodeF l5 s).6 (nodeF l5 s).7 (nodeF l5 s).8 (nodeF l5 s).9 (nodeF l5 s).10 (nodeF l5 s).11 [] 0) (rpX.mk (nodeF l5 s).1 (nodeF l5 s).2 (nodeF l5 s).3 (nodeF l5 s).4 (nodeF l5 s).5 (nodeF l5 s).6 (nodeF l5 s).7 (nodeF l5 s).8 (nodeF l5 s).9 (nodeF l5 s).10 (nodeF l5 s).11 [] 0) m6)) ∧ (
    ∀ x6 : (rpL I).X, ∀ m7 : Nat, (I (rpC.mk next xs) (rpX.mk (nodeF l5 s).1 (nodeF l5 s).2 (nodeF l5 s).3 (nodeF l5 s).4 (nodeF l5 s).5 (nodeF l5 s).6 (nodeF l5 s).7 (nodeF l5 s).8 (nodeF l5 s).9 (nodeF l5 s).10 (nodeF l5 s).11 [] 0) x6 m7) → (
    br (leI x6.13 1024) (
      br (notB (eqI x6.1 1)) (
        need (catOk [47] x6.4) (
        need (catOk (47 :: x6.4) x6.12) (
        ∃ l8 : List Node, ((xs : List (List V)) = nodeV l8) ∧ (
        (((l8.length : Nat) ≤ 100000)) ∧ (
        ((rpC.mk next xs : (rpL I).C) = rpC.mk next xs) ∧ (
        ∃ m'9 : Nat, (((m'9 : Nat) < m7)) ∧ (
        I (rpC.mk next xs) (rpX.mk (nodeF l5 s).1 (nodeF l5 s).2 (nodeF l5 s).3 (nodeF l5 s).4 (nodeF l5 s).5 (nodeF l5 s).6 (nodeF l5 s).7 (nodeF l5 s).8 (nodeF l5 s).9 (nodeF l5 s).10 (nodeF l5 s).11 [] 0) (rpX.mk (nodeF l8 x6.x1).1 (nodeF l8 x6.x1).2 (nodeF l8 x6.x1).3 (nodeF l8 x6.x1).4 (nodeF l8 x6.x1).5 (nodeF l8 x6.x1).6 (nodeF l8 x6.x1).7 (nodeF l8 x6.x1).8 (nodeF l8 x6.x1).9 (nodeF l8 x6.x1).10 (nodeF l8 x6.x1).11 (47 :: catS x6.4 x6.12) (addI IntKind.i64 x6.13 1)) m'9))))))) (
        br (eqS x6.12 []) (
          K (V.tup [V.str [47], V.int IntKind.i64 0]) []) (
          K (V.tup [V.str x6.12, V.int IntKind.i64 0]) []))) (
      br (eqS x6.12 []) (
        K (V.tup [V.str [47], V.int IntKind.i64 0]) []) (
        K (V.tup [V.str x6.12, V.int IntKind.i64 0]) [])))))))) := by kernel_rfl

end Go.Proofs.Ytepehbbagbfmcaa
namespace Go.Proofs.Ytepehbbagbfmcaa
open Go.RowKit
set_option maxRecDepth 100000
set_option linter.unusedVariables false
set_option linter.unusedSimpArgs false
def noneB (p : Node → Bool) (l : List Node) (k : Nat) : Prop := ∀ (j : Nat) g, j < k → l[j]? = some g → p g = false
theorem none_next {p : Node → Bool} {l : List Node} {k : Nat} {f : Node} (h : noneB p l k) (gf : l[k]? = some f) (hf : p f = false) : noneB p l (k + 1) := fun j g hj hg => by
  rcases Nat.lt_or_ge j k with h1 | h1
  · exact h j g h1 hg
  · obtain rfl : j = k := by omega
    obtain rfl := Option.some.inj (gf.symm.trans hg)
    exact hf
theorem none_all {p : Node → Bool} {l : List Node} (h : noneB p l l.length) : ∀ x ∈ l, p x = false := fun x hx => by
  obtain ⟨j, hj⟩ := List.mem_iff_getElem?.1 hx
  exact h j x (List.getElem?_eq_some_iff.1 hj).1 hj
theorem fidx_at {p : Node → Bool} {l : List Node} {k : Nat} {f : Node} (gf : l[k]? = some f) (hp : p f = true) (h : noneB p l k) : fidx p l = (k : Int) := by
  obtain ⟨hk, rfl⟩ := List.getElem?_eq_some_iff.1 gf
  have : l.findIdx? p = some k := List.findIdx?_eq_some_iff_getElem.2 ⟨hk, hp, fun j hj => by
    rw [h j _ hj (List.getElem?_eq_getElem (by omega))]; simp⟩
  unfold fidx; rw [this]
theorem fidx_no {p : Node → Bool} {l : List Node} (h : ∀ x ∈ l, p x = false) : fidx p l = -1 := by
  have : l.findIdx? p = none := List.findIdx?_eq_none_iff.2 h
  unfold fidx; rw [this]
theorem fidx_cases (p : Node → Bool) (l : List Node) : (fidx p l = -1 ∧ ∀ x ∈ l, p x = false) ∨ ∃ (k : Nat) (f : Node), fidx p l = (k : Int) ∧ l[k]? = some f ∧ p f = true ∧ noneB p l k ∧ k < l.length := by
  cases h : l.findIdx? p with
  | none => exact .inl ⟨by unfold fidx; rw [h], List.findIdx?_eq_none_iff.1 h⟩
  | some k =>
    obtain ⟨hk, h1, h2⟩ := List.findIdx?_eq_some_iff_getElem.1 h
    exact .inr ⟨k, l[k], by unfold fidx; rw [h], List.getElem?_eq_getElem hk, h1, fun j g hj hg => by
      obtain ⟨hj', rfl⟩ := List.getElem?_eq_some_iff.1 hg
      simpa using h2 j hj, hk⟩
theorem find_at {p : Node → Bool} {l : List Node} {k : Nat} {f : Node} (gf : l[k]? = some f) (hp : p f = true) (h : noneB p l k) : l.find? p = some f := by
  obtain ⟨hk, rfl⟩ := List.getElem?_eq_some_iff.1 gf
  exact List.find?_eq_some_iff_getElem.2 ⟨hp, k, hk, rfl, fun j hj => by rw [h j _ hj (List.getElem?_eq_getElem (by omega))]; rfl⟩
theorem find_no {p : Node → Bool} {l : List Node} (h : ∀ x ∈ l, p x = false) : l.find? p = none := List.find?_eq_none.2 fun x hx => by rw [h x hx]; simp
theorem node_at {l : List Node} {s : Int} {k : Nat} {f : Node} (gf : l[k]? = some f) (hp : idP s f = true) (h : noneB (idP s) l k) : nodeF l s = f ∧ hasB l s = true := by
  unfold nodeF hasB; rw [find_at gf hp h]; exact ⟨rfl, rfl⟩
theorem node_no {l : List Node} {s : Int} (h : ∀ x ∈ l, idP s x = false) : nodeF l s = zN ∧ hasB l s = false := by
  unfold nodeF hasB; rw [find_no h]; exact ⟨rfl, rfl⟩
theorem idP_t {s : Int} {x : Node} : (idP s x = true) = (x.id = s) := by simp [idP]
theorem idP_f {s : Int} {x : Node} : (idP s x = false) = (x.id ≠ s) := by simp [idP]
theorem chP_t {d : Int} {s : List UInt8} {x : Node} : (chP d s x = true) = (x.par = d ∧ x.id ≠ 1 ∧ x.name = s) := by simp [chP]
theorem chP_f {d : Int} {s : List UInt8} {x : Node} : (chP d s x = false) = ¬ (x.par = d ∧ x.id ≠ 1 ∧ x.name = s) := by rw [← Bool.not_eq_true, chP_t]
theorem fi_con {n : Nat} (hn : 2 ≤ n) : ConOk (evalF Try.prog cfgN n) 67 fiCon := by
  intro vs bs K h
  unfold fiCon at h
  split at h
  · rename_i nx xs s
    obtain ⟨l, rfl, hb, hK⟩ := h
    refine run_of (lp := lpOf [(2, fiL fun _ _ x m => ∃ k : Nat, x.i = (k : Int) ∧ k + m = l.length ∧ noneB (idP s) l k)]) (by omega) (ct := ctOf [(69, inlC Try.prog cfgN (ctOf []) 69)]) (fun k hk => ctOf_ok (ctOf_cons (inl_ok (by omega) (fun _ _ => noCt_ok _)) (ctOf_nil _))) ?_
    rw [fi_vc]
    simp only [nodeV_lenL]
    refine ⟨⟨l.length, by omega, 0, rfl, by omega, fun j g hj => by omega⟩, ?_⟩
    rintro ⟨i⟩ m ⟨k, hi, hk, hp⟩
    dsimp only at hi ⊢
    subst hi
    rw [br_iff]
    refine ⟨fun hlt => ?_, fun hge => ?_⟩
    · have hlt : k < l.length := by simp only [br_iff, need_iff, andB_t, andB_f, orB_t, orB_f, notB_t, notB_f, leI_t, leI_f, ltI_t, ltI_f, eqI_t, eqI_f, leN_t, leN_f, eqN_t, eqN_f, eqS_t, eqS_f, eqB_t, eqB_f, catOk_t, leC_t] at hlt; omega
      have gf : l[k]? = some l[k] := List.getElem?_eq_getElem hlt
      generalize l[k] = f at gf
      have rf := nodeV_row gf
      have kf : okRow (nodeV l) (Int.toNat (k : Int)) 11 = true := by simpa using nodeV_ok (l := l) (i := k) hlt
      have nf : andB (leI 0 (k : Int)) (ltI (k : Int) (l.length : Int)) = true := by simp only [br_iff, need_iff, andB_t, andB_f, orB_t, orB_f, notB_t, notB_f, leI_t, leI_f, ltI_t, ltI_f, eqI_t, eqI_f, leN_t, leN_f, eqN_t, eqN_f, eqS_t, eqS_f, eqB_t, eqB_f, catOk_t, leC_t]; omega
      rw [need_iff, need_iff]
      refine ⟨nf, kf, ?_⟩
      try rw [rf]
      repeat apply Exists.intro
      refine ⟨rfl, ?_⟩
      rw [br_iff]
      refine ⟨fun g => ?_, fun g => ⟨by trivial, m - 1, by omega, k + 1, by rw [addI_i64 (by omega) (by omega)]; omega, by omega, none_next hp gf (by rw [idP_f]; simp only [br_iff, need_iff, andB_t, andB_f, orB_t, orB_f, notB_t, notB_f, leI_t, leI_f, ltI_t, ltI_f, eqI_t, eqI_f, leN_t, leN_f, eqN_t, eqN_f, eqS_t, eqS_f, eqB_t, eqB_f, catOk_t, leC_t] at g; exact g)⟩⟩
      simp only [br_iff, need_iff, andB_t, andB_f, orB_t, orB_f, notB_t, notB_f, leI_t, leI_f, ltI_t, ltI_f, eqI_t, eqI_f, leN_t, leN_f, eqN_t, eqN_f, eqS_t, eqS_f, eqB_t, eqB_f, catOk_t, leC_t] at g
      rw [fidx_at gf (by rw [idP_t]; exact g) hp] at hK; exact hK
    · have : k = l.length := by simp only [br_iff, need_iff, andB_t, andB_f, orB_t, orB_f, notB_t, notB_f, leI_t, leI_f, ltI_t, ltI_f, eqI_t, eqI_f, leN_t, leN_f, eqN_t, eqN_f, eqS_t, eqS_f, eqB_t, eqB_f, catOk_t, leC_t] at hge; omega
      subst this
      rw [fidx_no (none_all hp)] at hK; exact hK
  · exact h.elim
theorem fc_con {n : Nat} (hn : 2 ≤ n) : ConOk (evalF Try.prog cfgN n) 67 fcCon := by
  intro vs bs K h
  unfold fcCon at h
  split at h
  · rename_i nx xs d s
    obtain ⟨l, rfl, hb, hK⟩ := h
    refine run_of (lp := lpOf [(2, fcL fun _ _ x m => ∃ k : Nat, x.i = (k : Int) ∧ k + m = l.length ∧ noneB (chP d s) l k)]) (by omega) (ct := ctOf [(68, inlC Try.prog cfgN (ctOf []) 68)]) (fun k hk => ctOf_ok (ctOf_cons (inl_ok (by omega) (fun _ _ => noCt_ok _)) (ctOf_nil _))) ?_
    rw [fc_vc]
    simp only [nodeV_lenL]
    refine ⟨⟨l.length, by omega, 0, rfl, by omega, fun j g hj => by omega⟩, ?_⟩
    rintro ⟨i⟩ m ⟨k, hi, hk, hp⟩
    dsimp only at hi ⊢
    subst hi
    rw [br_iff]
    refine ⟨fun hlt => ?_, fun hge => ?_⟩
    · have hlt : k < l.length := by simp only [br_iff, need_iff, andB_t, andB_f, orB_t, orB_f, notB_t, notB_f, leI_t, leI_f, ltI_t, ltI_f, eqI_t, eqI_f, leN_t, leN_f, eqN_t, eqN_f, eqS_t, eqS_f, eqB_t, eqB_f, catOk_t, leC_t] at hlt; omega
      have gf : l[k]? = some l[k] := List.getElem?_eq_getElem hlt
      generalize l[k] = f at gf
      have rf := nodeV_row gf
      have kf : okRow (nodeV l) (Int.toNat (k : Int)) 11 = true := by simpa using nodeV_ok (l := l) (i := k) hlt
      have nf : andB (leI 0 (k : Int)) (ltI (k : Int) (l.length : Int)) = true := by simp only [br_iff, need_iff, andB_t, andB_f, orB_t, orB_f, notB_t, notB_f, leI_t, leI_f, ltI_t, ltI_f, eqI_t, eqI_f, leN_t, leN_f, eqN_t, eqN_f, eqS_t, eqS_f, eqB_t, eqB_f, catOk_t, leC_t]; omega
      rw [need_iff, need_iff]
      refine ⟨nf, kf, ?_⟩
      try rw [rf]
      repeat apply Exists.intro
      refine ⟨rfl, ?_⟩
      have nx : chP d s f = false → ∃ m' : Nat, m' < m ∧ ∃ k' : Nat, addI .i64 (k : Int) 1 = (k' : Int) ∧ k' + m' = l.length ∧ noneB (chP d s) l k' :=
        fun q => ⟨m - 1, by omega, k + 1, by rw [addI_i64 (by omega) (by omega)]; omega, by omega, none_next hp gf q⟩
      refine br_iff.2 ⟨fun g1 => br_iff.2 ⟨fun g2 => br_iff.2 ⟨fun g3 => ?_, fun g3 => ⟨by trivial, nx ?_⟩⟩, fun g2 => ⟨by trivial, nx ?_⟩⟩, fun g1 => ⟨by trivial, nx ?_⟩⟩
      · simp only [br_iff, need_iff, andB_t, andB_f, orB_t, orB_f, notB_t, notB_f, leI_t, leI_f, ltI_t, ltI_f, eqI_t, eqI_f, leN_t, leN_f, eqN_t, eqN_f, eqS_t, eqS_f, eqB_t, eqB_f, catOk_t, leC_t] at g1 g2 g3
        rw [fidx_at gf (by rw [chP_t]; exact ⟨g1, g2, g3⟩) hp] at hK; exact hK
      · rw [chP_f]; simp only [br_iff, need_iff, andB_t, andB_f, orB_t, orB_f, notB_t, notB_f, leI_t, leI_f, ltI_t, ltI_f, eqI_t, eqI_f, leN_t, leN_f, eqN_t, eqN_f, eqS_t, eqS_f, eqB_t, eqB_f, catOk_t, leC_t] at g3; exact fun q => g3 q.2.2
      · rw [chP_f]; simp only [br_iff, need_iff, andB_t, andB_f, orB_t, orB_f, notB_t, notB_f, leI_t, leI_f, ltI_t, ltI_f, eqI_t, eqI_f, leN_t, leN_f, eqN_t, eqN_f, eqS_t, eqS_f, eqB_t, eqB_f, catOk_t, leC_t] at g2; exact fun q => q.2.1 g2
      · rw [chP_f]; simp only [br_iff, need_iff, andB_t, andB_f, orB_t, orB_f, notB_t, notB_f, leI_t, leI_f, ltI_t, ltI_f, eqI_t, eqI_f, leN_t, leN_f, eqN_t, eqN_f, eqS_t, eqS_f, eqB_t, eqB_f, catOk_t, leC_t] at g1; exact fun q => g1 q.1
    · have : k = l.length := by simp only [br_iff, need_iff, andB_t, andB_f, orB_t, orB_f, notB_t, notB_f, leI_t, leI_f, ltI_t, ltI_f, eqI_t, eqI_f, leN_t, leN_f, eqN_t, eqN_f, eqS_t, eqS_f, eqB_t, eqB_f, catOk_t, leC_t] at hge; omega
      subst this
      rw [fidx_no (none_all hp)] at hK; exact hK
  · exact h.elim
theorem ix_con {n : Nat} (hn : 3 ≤ n) : ConOk (evalF Try.prog cfgN n) 53 indexCon := by
  intro vs bs K h
  unfold indexCon treeCon at h
  split at h
  · obtain ⟨l, rfl, hb, hK⟩ := h
    refine run_of (lp := lpOf []) (by omega) (ct := ctOf [(67, fiCon)]) (fun k hk => ctOf_ok (ctOf_cons (fi_con (by omega)) (ctOf_nil _))) ?_
    rw [ix_vc]
    exact ⟨l, rfl, hb, hK⟩
  · exact h.elim
theorem cx_con {n : Nat} (hn : 3 ≤ n) : ConOk (evalF Try.prog cfgN n) 52 childCon := by
  intro vs bs K h
  unfold childCon at h
  split at h
  · obtain ⟨l, rfl, hb, hK⟩ := h
    refine run_of (lp := lpOf []) (by omega) (ct := ctOf [(67, fcCon)]) (fun k hk => ctOf_ok (ctOf_cons (fc_con (by omega)) (ctOf_nil _))) ?_
    rw [cx_vc]
    exact ⟨l, rfl, hb, hK⟩
  · exact h.elim
theorem ri_con {n : Nat} (hn : 1 ≤ n) : ConOk (evalF Try.prog cfgN n) 46 indexCon := by
  intro vs bs K h
  unfold indexCon treeCon at h
  split at h
  · rename_i nx xs s
    obtain ⟨l, rfl, hb, hK⟩ := h
    refine run_of (lp := lpOf [(2, riL fun _ _ x m => ∃ k : Nat, x.i = (k : Int) ∧ k + m = l.length ∧ noneB (idP s) l k)]) (by omega) (fun k hk => noCt_ok _) ?_
    rw [ri_vc]
    simp only [nodeV_lenL]
    refine ⟨⟨l.length, by omega, 0, rfl, by omega, fun j g hj => by omega⟩, ?_⟩
    rintro ⟨i⟩ m ⟨k, hi, hk, hp⟩
    dsimp only at hi ⊢
    subst hi
    rw [br_iff]
    refine ⟨fun hlt => ?_, fun hge => ?_⟩
    · have hlt : k < l.length := by simp only [br_iff, need_iff, andB_t, andB_f, orB_t, orB_f, notB_t, notB_f, leI_t, leI_f, ltI_t, ltI_f, eqI_t, eqI_f, leN_t, leN_f, eqN_t, eqN_f, eqS_t, eqS_f, eqB_t, eqB_f, catOk_t, leC_t] at hlt; omega
      have gf : l[k]? = some l[k] := List.getElem?_eq_getElem hlt
      generalize l[k] = f at gf
      have rf := nodeV_row gf
      have kf : okRow (nodeV l) (Int.toNat (k : Int)) 11 = true := by simpa using nodeV_ok (l := l) (i := k) hlt
      have nf : andB (leI 0 (k : Int)) (ltI (k : Int) (l.length : Int)) = true := by simp only [br_iff, need_iff, andB_t, andB_f, orB_t, orB_f, notB_t, notB_f, leI_t, leI_f, ltI_t, ltI_f, eqI_t, eqI_f, leN_t, leN_f, eqN_t, eqN_f, eqS_t, eqS_f, eqB_t, eqB_f, catOk_t, leC_t]; omega
      rw [need_iff, need_iff]
      refine ⟨nf, kf, ?_⟩
      try rw [rf]
      repeat apply Exists.intro
      refine ⟨rfl, ?_⟩
      rw [br_iff]
      refine ⟨fun g => ?_, fun g => ⟨by trivial, m - 1, by omega, k + 1, by rw [addI_i64 (by omega) (by omega)]; omega, by omega, none_next hp gf (by rw [idP_f]; simp only [br_iff, need_iff, andB_t, andB_f, orB_t, orB_f, notB_t, notB_f, leI_t, leI_f, ltI_t, ltI_f, eqI_t, eqI_f, leN_t, leN_f, eqN_t, eqN_f, eqS_t, eqS_f, eqB_t, eqB_f, catOk_t, leC_t] at g; exact g)⟩⟩
      simp only [br_iff, need_iff, andB_t, andB_f, orB_t, orB_f, notB_t, notB_f, leI_t, leI_f, ltI_t, ltI_f, eqI_t, eqI_f, leN_t, leN_f, eqN_t, eqN_f, eqS_t, eqS_f, eqB_t, eqB_f, catOk_t, leC_t] at g
      rw [fidx_at gf (by rw [idP_t]; exact g) hp] at hK; exact hK
    · have : k = l.length := by simp only [br_iff, need_iff, andB_t, andB_f, orB_t, orB_f, notB_t, notB_f, leI_t, leI_f, ltI_t, ltI_f, eqI_t, eqI_f, leN_t, leN_f, eqN_t, eqN_f, eqS_t, eqS_f, eqB_t, eqB_f, catOk_t, leC_t] at hge; omega
      subst this
      rw [fidx_no (none_all hp)] at hK; exact hK
  · exact h.elim
theorem no_con {n : Nat} (hn : 4 ≤ n) : ConOk (evalF Try.prog cfgN n) 26 nodeCon := by
  intro vs bs K h
  unfold nodeCon treeCon at h
  split at h
  · rename_i nx xs s
    obtain ⟨l, rfl, hb, hK⟩ := h
    refine run_of (lp := lpOf []) (by omega) (ct := ctOf [(53, indexCon)]) (fun k hk => ctOf_ok (ctOf_cons (ix_con (by omega)) (ctOf_nil _))) ?_
    rw [no_vc]
    refine ⟨l, rfl, hb, ?_⟩
    simp only [nodeV_lenL]
    rcases fidx_cases (idP s) l with ⟨h1, h2⟩ | ⟨k, f, h1, gf, h3, h4, hlt⟩
    · rw [h1, (node_no h2).1, (node_no h2).2] at *
      exact hK
    · rw [h1, (node_at gf h3 h4).1, (node_at gf h3 h4).2] at *
      refine br_iff.2 ⟨fun g => by simp only [br_iff, need_iff, andB_t, andB_f, orB_t, orB_f, notB_t, notB_f, leI_t, leI_f, ltI_t, ltI_f, eqI_t, eqI_f, leN_t, leN_f, eqN_t, eqN_f, eqS_t, eqS_f, eqB_t, eqB_f, catOk_t, leC_t] at g; omega, fun g => ?_⟩
      have gq : l[k]? = some l[k] := List.getElem?_eq_getElem hlt
      generalize l[k] = q at gq
      have rq := nodeV_row gq
      have kq : okRow (nodeV l) (Int.toNat (k : Int)) 11 = true := by simpa using nodeV_ok (l := l) (i := k) hlt
      have nq : andB (leI 0 (k : Int)) (ltI (k : Int) (l.length : Int)) = true := by simp only [br_iff, need_iff, andB_t, andB_f, orB_t, orB_f, notB_t, notB_f, leI_t, leI_f, ltI_t, ltI_f, eqI_t, eqI_f, leN_t, leN_f, eqN_t, eqN_f, eqS_t, eqS_f, eqB_t, eqB_f, catOk_t, leC_t]; omega
      obtain rfl := Option.some.inj (gf.symm.trans gq)
      rw [need_iff, need_iff]
      refine ⟨nq, kq, ?_⟩
      try rw [rq]
      repeat apply Exists.intro
      refine ⟨rfl, ?_⟩
      exact hK
  · exact h.elim
theorem rno_con {n : Nat} (hn : 2 ≤ n) : ConOk (evalF Try.prog cfgN n) 21 nodeCon := by
  intro vs bs K h
  unfold nodeCon treeCon at h
  split at h
  · rename_i nx xs s
    obtain ⟨l, rfl, hb, hK⟩ := h
    refine run_of (lp := lpOf []) (by omega) (ct := ctOf [(46, indexCon)]) (fun k hk => ctOf_ok (ctOf_cons (ri_con (by omega)) (ctOf_nil _))) ?_
    rw [rno_vc]
    refine ⟨l, rfl, hb, ?_⟩
    simp only [nodeV_lenL]
    rcases fidx_cases (idP s) l with ⟨h1, h2⟩ | ⟨k, f, h1, gf, h3, h4, hlt⟩
    · rw [h1, (node_no h2).1, (node_no h2).2] at *
      exact hK
    · rw [h1, (node_at gf h3 h4).1, (node_at gf h3 h4).2] at *
      refine br_iff.2 ⟨fun g => by simp only [br_iff, need_iff, andB_t, andB_f, orB_t, orB_f, notB_t, notB_f, leI_t, leI_f, ltI_t, ltI_f, eqI_t, eqI_f, leN_t, leN_f, eqN_t, eqN_f, eqS_t, eqS_f, eqB_t, eqB_f, catOk_t, leC_t] at g; omega, fun g => ?_⟩
      have gq : l[k]? = some l[k] := List.getElem?_eq_getElem hlt
      generalize l[k] = q at gq
      have rq := nodeV_row gq
      have kq : okRow (nodeV l) (Int.toNat (k : Int)) 11 = true := by simpa using nodeV_ok (l := l) (i := k) hlt
      have nq : andB (leI 0 (k : Int)) (ltI (k : Int) (l.length : Int)) = true := by simp only [br_iff, need_iff, andB_t, andB_f, orB_t, orB_f, notB_t, notB_f, leI_t, leI_f, ltI_t, ltI_f, eqI_t, eqI_f, leN_t, leN_f, eqN_t, eqN_f, eqS_t, eqS_f, eqB_t, eqB_f, catOk_t, leC_t]; omega
      obtain rfl := Option.some.inj (gf.symm.trans gq)
      rw [need_iff, need_iff]
      refine ⟨nq, kq, ?_⟩
      try rw [rq]
      repeat apply Exists.intro
      refine ⟨rfl, ?_⟩
      exact hK
  · exact h.elim
theorem wi_con {n : Nat} (hn : 5 ≤ n) : ConOk (evalF Try.prog cfgN n) 51 withinCon := by
  intro vs bs K h
  unfold withinCon treeCon at h
  split at h
  · rename_i nx xs s
    obtain ⟨l, rfl, hb, hm, hK⟩ := h
    refine run_of (lp := lpOf []) (by omega) (ct := ctOf [(26, nodeCon), (39, intCon dirB)]) (fun k hk => ctOf_ok (ctOf_cons (no_con (by omega)) (ctOf_cons (dir_con (by omega)) (ctOf_nil _)))) ?_
    rw [wi_vc]
    refine ⟨l, rfl, hb, ?_⟩
    unfold withinF at hK
    refine br_iff.2 ⟨fun g => ?_, fun g => ⟨hm, br_iff.2 ⟨fun g2 => ?_, fun g2 => ?_⟩⟩⟩ <;> simp only [br_iff, need_iff, andB_t, andB_f, orB_t, orB_f, notB_t, notB_f, leI_t, leI_f, ltI_t, ltI_f, eqI_t, eqI_f, leN_t, leN_f, eqN_t, eqN_f, eqS_t, eqS_f, eqB_t, eqB_f, catOk_t, leC_t] at *
    · rw [if_neg (by simp [g])] at hK; exact hK
    · rw [if_pos g, if_neg (by simp [g2])] at hK; exact hK
    · rw [if_pos g, if_pos g2] at hK; exact hK
  · exact h.elim
end Go.Proofs.Ytepehbbagbfmcaa
namespace Go.Proofs.Ytepehbbagbfmcaa
open Go.RowKit
set_option maxRecDepth 100000
set_option linter.unusedVariables false
set_option linter.unusedSimpArgs false
/-- The node at a place fits those before it. -/
def okN (n : Int) (l : List Node) (j : Nat) (x : Node) : Prop := soundB x = true ∧ x.id < n ∧ (j = 0 → x.id = 1 ∧ x.par = 1 ∧ x.name = [47] ∧ dirB x.mode = true) ∧
  (0 < j → nameB x.name = true ∧ (∃ (k : Nat) (y : Node), k < j ∧ l[k]? = some y ∧ y.id = x.par ∧ dirB y.mode = true) ∧ (∀ (k : Nat) (y : Node), 0 < k → k < j → l[k]? = some y → ¬ (y.par = x.par ∧ y.name = x.name)) ∧ ∀ (k : Nat) (y : Node), j = k + 1 → l[k]? = some y → y.id < x.id)
def goodT (n : Int) (l : List Node) : Prop := 1 ≤ l.length ∧ l.length ≤ 1024 ∧ n ≤ 1048576 ∧ ∀ (j : Nat) (x : Node), l[j]? = some x → okN n l j x
section
variable {n : Int} {l : List Node}
theorem sound_iff {x : Node} : soundB x = true ↔ validB x.mode = true ∧ 0 ≤ x.vers ∧ x.vers ≤ 2147483647 ∧ 0 ≤ x.atime ∧ x.atime ≤ 1099511627776 ∧ 0 ≤ x.mtime ∧ x.mtime ≤ 1099511627776 ∧ x.uid.length ≤ 64 ∧ x.gid.length ≤ 64 ∧ x.muid.length ≤ 64 ∧ x.data.length ≤ 65536 ∧ (dirB x.mode = true → x.data = []) := by
  simp only [soundB, decide_eq_true_eq]
theorem valid_le {m : Int} (h : validB m = true) : 0 ≤ m ∧ m ≤ 4294967295 := by
  simp only [validB, decide_eq_true_eq] at h
  omega
theorem good_asc (h : goodT n l) : ∀ {j k : Nat} {x y : Node}, j < k → l[j]? = some x → l[k]? = some y → x.id < y.id := by
  intro j k
  induction k with
  | zero => intro x y hj; omega
  | succ k ih =>
    intro x y hj gx gy
    have hk : k < l.length := by have := (List.getElem?_eq_some_iff.1 gy).1; omega
    have gk : l[k]? = some l[k] := List.getElem?_eq_getElem hk
    have h1 := ((h.2.2.2 _ y gy).2.2.2 (by omega)).2.2.2 k _ rfl gk
    rcases Nat.lt_or_ge j k with h2 | h2
    · have := ih h2 gx gk; omega
    · obtain rfl : j = k := by omega
      obtain rfl := Option.some.inj (gx.symm.trans gk)
      exact h1
theorem good_head (h : goodT n l) {k : Nat} {x : Node} (gx : l[k]? = some x) : x.id = 1 ↔ k = 0 := by
  have h0 : 0 < l.length := by have := h.1; omega
  have g0 : l[0]? = some l[0] := List.getElem?_eq_getElem h0
  have h1 := ((h.2.2.2 0 _ g0).2.2.1 rfl).1
  constructor
  · intro hx
    rcases Nat.eq_zero_or_pos k with hk | hk
    · exact hk
    · have := good_asc h hk g0 gx; omega
  · rintro rfl
    obtain rfl := Option.some.inj (gx.symm.trans g0)
    exact h1
theorem good_uniq (h : goodT n l) {j k : Nat} {x y : Node} (gx : l[j]? = some x) (gy : l[k]? = some y) (e : x.id = y.id) : j = k := by
  rcases Nat.lt_trichotomy j k with q | q | q
  · have := good_asc h q gx gy; omega
  · exact q
  · have := good_asc h q gy gx; omega
theorem good_node (h : goodT n l) {k : Nat} {x : Node} (gx : l[k]? = some x) : nodeF l x.id = x ∧ hasB l x.id = true :=
  node_at gx (by rw [idP_t]) fun j g hj hg => by rw [idP_f]; intro e; have := good_uniq h hg gx e; omega
theorem good_valid (h : goodT n l) {k : Nat} {x : Node} (gx : l[k]? = some x) : validB x.mode = true := (sound_iff.1 (h.2.2.2 k x gx).1).1
theorem has_at {s : Int} (h : hasB l s = true) : ∃ (k : Nat) (x : Node), l[k]? = some x ∧ x.id = s ∧ nodeF l s = x ∧ k < l.length := by
  rcases fidx_cases (idP s) l with ⟨_, h2⟩ | ⟨k, f, _, gf, h3, h4, hlt⟩
  · rw [(node_no h2).2] at h; cases h
  · exact ⟨k, f, gf, by rw [idP_t] at h3; exact h3, (node_at gf h3 h4).1, hlt⟩
theorem has_not {s : Int} (h : hasB l s = false) : (∀ x ∈ l, x.id ≠ s) ∧ nodeF l s = zN := by
  rcases fidx_cases (idP s) l with ⟨_, h2⟩ | ⟨k, f, _, gf, h3, h4, _⟩
  · exact ⟨fun x hx => by have := h2 x hx; rwa [idP_f] at this, (node_no h2).1⟩
  · rw [(node_at gf h3 h4).2] at h; cases h
theorem mode_le (h : goodT n l) (s : Int) : (nodeF l s).mode ≤ 9223372036854775807 := by
  cases hb : hasB l s with
  | true =>
    obtain ⟨k, x, gx, _, e, _⟩ := has_at hb
    rw [e]
    have := valid_le (good_valid h gx); omega
  | false => rw [(has_not hb).2]; decide
theorem isdir_eq (h : goodT n l) (s : Int) : isDirB (nodeF l s).mode = dirB (nodeF l s).mode := by
  cases hb : hasB l s with
  | true =>
    obtain ⟨k, x, gx, _, e, _⟩ := has_at hb
    rw [e]
    exact valid_dir (good_valid h gx)
  | false => rw [(has_not hb).2]; decide
def findF (l : List Node) (d : Int) (s : List UInt8) : Int × Int :=
  if withinF l d ≠ 0 then (0, withinF l d) else if s = [46, 46] then ((nodeF l d).par, 0) else match l.find? (chP d s) with
  | some x => (x.id, 0)
  | none => (0, 8)
end
def goodCon (g : List Node → Int → List UInt8 → (V → Prop) → Prop) : Con := fun vs bs K => match vs, bs with
  | [.agg [.int .i64 n, .lst xs], .int .i64 d, .str s], [] => ∃ l, xs = nodeV l ∧ goodT n l ∧ g l d s fun v => K v []
  | _, _ => False
def goodCon1 (g : List Node → Int → (V → Prop) → Prop) : Con := fun vs bs K => match vs, bs with
  | [.agg [.int .i64 n, .lst xs], .int .i64 d], [] => ∃ l, xs = nodeV l ∧ goodT n l ∧ g l d fun v => K v []
  | _, _ => False
def findCon : Con := goodCon fun l d s K => K (.tup [.int .i64 (findF l d s).1, .int .i64 (findF l d s).2])
theorem fd_con {n : Nat} (hn : 6 ≤ n) : ConOk (evalF Try.prog cfgN n) 25 findCon := by
  intro vs bs K h
  unfold findCon goodCon at h
  split at h
  · rename_i nx xs d s
    obtain ⟨l, rfl, hg, hK⟩ := h
    have hb : l.length ≤ 100000 := by have := hg.2.1; omega
    refine run_of (lp := lpOf []) (by omega) (ct := ctOf [(26, nodeCon), (51, withinCon), (52, childCon)]) (fun k hk => ctOf_ok (ctOf_cons (no_con (by omega)) (ctOf_cons (wi_con (by omega)) (ctOf_cons (cx_con (by omega)) (ctOf_nil _))))) ?_
    rw [fd_vc]
    unfold findF at hK
    refine ⟨l, rfl, hb, mode_le hg d, br_iff.2 ⟨fun g => ?_, fun g => br_iff.2 ⟨fun g2 => ⟨l, rfl, hb, ?_⟩, fun g2 => ⟨l, rfl, hb, ?_⟩⟩⟩⟩ <;> simp only [br_iff, need_iff, andB_t, andB_f, orB_t, orB_f, notB_t, notB_f, leI_t, leI_f, ltI_t, ltI_f, eqI_t, eqI_f, leN_t, leN_f, eqN_t, eqN_f, eqS_t, eqS_f, eqB_t, eqB_f, catOk_t, leC_t] at g
    · rw [if_pos g] at hK; exact hK
    · simp only [br_iff, need_iff, andB_t, andB_f, orB_t, orB_f, notB_t, notB_f, leI_t, leI_f, ltI_t, ltI_f, eqI_t, eqI_f, leN_t, leN_f, eqN_t, eqN_f, eqS_t, eqS_f, eqB_t, eqB_f, catOk_t, leC_t] at g2
      rw [if_neg (by simp [g]), if_pos g2] at hK; exact hK
    · simp only [br_iff, need_iff, andB_t, andB_f, orB_t, orB_f, notB_t, notB_f, leI_t, leI_f, ltI_t, ltI_f, eqI_t, eqI_f, leN_t, leN_f, eqN_t, eqN_f, eqS_t, eqS_f, eqB_t, eqB_f, catOk_t, leC_t] at g2
      rw [if_neg (by simp [g]), if_neg g2] at hK
      simp only [nodeV_lenL]
      rcases fidx_cases (chP d s) l with ⟨h1, h2⟩ | ⟨k, f, h1, gf, h3, h4, hlt⟩
      · rw [h1]; rw [find_no h2] at hK; exact hK
      · rw [h1]; rw [find_at gf h3 h4] at hK
        refine br_iff.2 ⟨fun g => by simp only [br_iff, need_iff, andB_t, andB_f, orB_t, orB_f, notB_t, notB_f, leI_t, leI_f, ltI_t, ltI_f, eqI_t, eqI_f, leN_t, leN_f, eqN_t, eqN_f, eqS_t, eqS_f, eqB_t, eqB_f, catOk_t, leC_t] at g; omega, fun g => ?_⟩
        have gq : l[k]? = some l[k] := List.getElem?_eq_getElem hlt
        generalize l[k] = q at gq
        have rq := nodeV_row gq
        have kq : okRow (nodeV l) (Int.toNat (k : Int)) 11 = true := by simpa using nodeV_ok (l := l) (i := k) hlt
        have nq : andB (leI 0 (k : Int)) (ltI (k : Int) (l.length : Int)) = true := by simp only [br_iff, need_iff, andB_t, andB_f, orB_t, orB_f, notB_t, notB_f, leI_t, leI_f, ltI_t, ltI_f, eqI_t, eqI_f, leN_t, leN_f, eqN_t, eqN_f, eqS_t, eqS_f, eqB_t, eqB_f, catOk_t, leC_t]; omega
        obtain rfl := Option.some.inj (gf.symm.trans gq)
        rw [need_iff, need_iff]
        refine ⟨nq, kq, ?_⟩
        try rw [rq]
        repeat apply Exists.intro
        refine ⟨rfl, ?_⟩
        exact hK
  · exact h.elim
theorem rfd_con {n : Nat} (hn : 3 ≤ n) : ConOk (evalF Try.prog cfgN n) 27 findCon := by
  intro vs bs K h
  unfold findCon goodCon at h
  split at h
  · rename_i nx xs d s
    obtain ⟨l, rfl, hg, hK⟩ := h
    have hb : l.length ≤ 100000 := by have := hg.2.1; omega
    have h1 := hg.1
    refine run_of (lp := lpOf [(9, rfL fun _ _ x m => ∃ k : Nat, x.i = (k : Int) ∧ 1 ≤ k ∧ k + m = l.length ∧ noneB (chP d s) l k)]) (by omega) (ct := ctOf [(21, nodeCon), (43, intCon isDirB)]) (fun k hk => ctOf_ok (ctOf_cons (rno_con (by omega)) (ctOf_cons (risd_con (by omega)) (ctOf_nil _)))) ?_
    rw [rfd_vc]
    unfold findF at hK
    refine ⟨l, rfl, hb, br_iff.2 ⟨fun g => ?_, fun g => ⟨mode_le hg d, br_iff.2 ⟨fun g2 => ?_, fun g2 => br_iff.2 ⟨fun g3 => ?_, fun g3 => ?_⟩⟩⟩⟩⟩ <;> simp only [br_iff, need_iff, andB_t, andB_f, orB_t, orB_f, notB_t, notB_f, leI_t, leI_f, ltI_t, ltI_f, eqI_t, eqI_f, leN_t, leN_f, eqN_t, eqN_f, eqS_t, eqS_f, eqB_t, eqB_f, catOk_t, leC_t] at g
    · have hw : withinF l d = 8 := by simp [withinF, g]
      rw [hw, if_pos (by decide)] at hK; exact hK
    · simp only [br_iff, need_iff, andB_t, andB_f, orB_t, orB_f, notB_t, notB_f, leI_t, leI_f, ltI_t, ltI_f, eqI_t, eqI_f, leN_t, leN_f, eqN_t, eqN_f, eqS_t, eqS_f, eqB_t, eqB_f, catOk_t, leC_t] at g2
      rw [isdir_eq hg] at g2
      have hw : withinF l d = 9 := by simp [withinF, g, g2]
      rw [hw, if_pos (by decide)] at hK; exact hK
    · simp only [br_iff, need_iff, andB_t, andB_f, orB_t, orB_f, notB_t, notB_f, leI_t, leI_f, ltI_t, ltI_f, eqI_t, eqI_f, leN_t, leN_f, eqN_t, eqN_f, eqS_t, eqS_f, eqB_t, eqB_f, catOk_t, leC_t] at g2 g3
      rw [isdir_eq hg] at g2
      have hw : withinF l d = 0 := by simp [withinF, g, g2]
      rw [hw, if_neg (by decide), if_pos g3] at hK; exact hK
    · simp only [br_iff, need_iff, andB_t, andB_f, orB_t, orB_f, notB_t, notB_f, leI_t, leI_f, ltI_t, ltI_f, eqI_t, eqI_f, leN_t, leN_f, eqN_t, eqN_f, eqS_t, eqS_f, eqB_t, eqB_f, catOk_t, leC_t] at g2 g3
      rw [isdir_eq hg] at g2
      have hw : withinF l d = 0 := by simp [withinF, g, g2]
      rw [hw, if_neg (by decide), if_neg g3] at hK
      simp only [nodeV_lenL]
      refine ⟨⟨l.length - 1, by omega, 1, rfl, by omega, by omega, fun j g hj gg => ?_⟩, ?_⟩
      · obtain rfl : j = 0 := by omega
        rw [chP_f]
        exact fun q => q.2.1 ((good_head hg gg).2 rfl)
      rintro ⟨i⟩ m ⟨k, hi, hk1, hk, hp⟩
      dsimp only at hi ⊢
      subst hi
      rw [br_iff]
      refine ⟨fun hlt => ?_, fun hge => ?_⟩
      · have hlt : k < l.length := by simp only [br_iff, need_iff, andB_t, andB_f, orB_t, orB_f, notB_t, notB_f, leI_t, leI_f, ltI_t, ltI_f, eqI_t, eqI_f, leN_t, leN_f, eqN_t, eqN_f, eqS_t, eqS_f, eqB_t, eqB_f, catOk_t, leC_t] at hlt; omega
        have gf : l[k]? = some l[k] := List.getElem?_eq_getElem hlt
        generalize l[k] = f at gf
        have rf := nodeV_row gf
        have kf : okRow (nodeV l) (Int.toNat (k : Int)) 11 = true := by simpa using nodeV_ok (l := l) (i := k) hlt
        have nf : andB (leI 0 (k : Int)) (ltI (k : Int) (l.length : Int)) = true := by simp only [br_iff, need_iff, andB_t, andB_f, orB_t, orB_f, notB_t, notB_f, leI_t, leI_f, ltI_t, ltI_f, eqI_t, eqI_f, leN_t, leN_f, eqN_t, eqN_f, eqS_t, eqS_f, eqB_t, eqB_f, catOk_t, leC_t]; omega
        rw [need_iff, need_iff]
        refine ⟨nf, kf, ?_⟩
        try rw [rf]
        repeat apply Exists.intro
        refine ⟨rfl, ?_⟩
        have nx : chP d s f = false → ∃ m' : Nat, m' < m ∧ ∃ k' : Nat, addI .i64 (k : Int) 1 = (k' : Int) ∧ 1 ≤ k' ∧ k' + m' = l.length ∧ noneB (chP d s) l k' :=
          fun q => ⟨m - 1, by omega, k + 1, by rw [addI_i64 (by omega) (by omega)]; omega, by omega, by omega, none_next hp gf q⟩
        refine br_iff.2 ⟨fun g1 => ?_, fun g1 => ⟨by trivial, nx ?_⟩⟩
        · skip
          rw [need_iff, need_iff]
          refine ⟨nf, kf, ?_⟩
          try rw [rf]
          repeat apply Exists.intro
          refine ⟨rfl, ?_⟩
          refine br_iff.2 ⟨fun g4 => ?_, fun g4 => ⟨by trivial, nx ?_⟩⟩
          · skip
            rw [need_iff, need_iff]
            refine ⟨nf, kf, ?_⟩
            try rw [rf]
            repeat apply Exists.intro
            refine ⟨rfl, ?_⟩
            simp only [br_iff, need_iff, andB_t, andB_f, orB_t, orB_f, notB_t, notB_f, leI_t, leI_f, ltI_t, ltI_f, eqI_t, eqI_f, leN_t, leN_f, eqN_t, eqN_f, eqS_t, eqS_f, eqB_t, eqB_f, catOk_t, leC_t] at g1 g4
            have hid : f.id ≠ 1 := fun q => by have := (good_head hg gf).1 q; omega
            rw [find_at gf (by rw [chP_t]; exact ⟨g1, hid, g4⟩) hp] at hK; exact hK
          · rw [chP_f]; simp only [br_iff, need_iff, andB_t, andB_f, orB_t, orB_f, notB_t, notB_f, leI_t, leI_f, ltI_t, ltI_f, eqI_t, eqI_f, leN_t, leN_f, eqN_t, eqN_f, eqS_t, eqS_f, eqB_t, eqB_f, catOk_t, leC_t] at g4; exact fun q => g4 q.2.2
        · rw [chP_f]; simp only [br_iff, need_iff, andB_t, andB_f, orB_t, orB_f, notB_t, notB_f, leI_t, leI_f, ltI_t, ltI_f, eqI_t, eqI_f, leN_t, leN_f, eqN_t, eqN_f, eqS_t, eqS_f, eqB_t, eqB_f, catOk_t, leC_t] at g1; exact fun q => g1 q.1
      · have : k = l.length := by simp only [br_iff, need_iff, andB_t, andB_f, orB_t, orB_f, notB_t, notB_f, leI_t, leI_f, ltI_t, ltI_f, eqI_t, eqI_f, leN_t, leN_f, eqN_t, eqN_f, eqS_t, eqS_f, eqB_t, eqB_f, catOk_t, leC_t] at hge; omega
        subst this
        rw [find_no (none_all hp)] at hK; exact hK
  · exact h.elim
-- children
def kidP (d : Int) (x : Node) : Bool := decide (x.par = d ∧ x.id ≠ 1)
def kids (l : List Node) (d : Int) (k : Nat) : List Int := ((l.take k).filter (kidP d)).map Node.id
def childF (l : List Node) (d : Int) : List Int := if withinF l d = 0 then kids l d l.length else []
theorem kidP_t {d : Int} {x : Node} : (kidP d x = true) = (x.par = d ∧ x.id ≠ 1) := by simp [kidP]
theorem kidP_f {d : Int} {x : Node} : (kidP d x = false) = ¬ (x.par = d ∧ x.id ≠ 1) := by rw [← Bool.not_eq_true, kidP_t]
theorem kids_yes {l : List Node} {d : Int} {k : Nat} {f : Node} (gf : l[k]? = some f) (h : kidP d f = true) : kids l d (k + 1) = kids l d k ++ [f.id] := by
  obtain ⟨hk, rfl⟩ := List.getElem?_eq_some_iff.1 gf
  unfold kids
  rw [List.take_succ_eq_append_getElem hk, List.filter_append, List.map_append]
  simp [h]
theorem kids_no {l : List Node} {d : Int} {k : Nat} {f : Node} (gf : l[k]? = some f) (h : kidP d f = false) : kids l d (k + 1) = kids l d k := by
  obtain ⟨hk, rfl⟩ := List.getElem?_eq_some_iff.1 gf
  unfold kids
  rw [List.take_succ_eq_append_getElem hk, List.filter_append, List.map_append]
  simp [h]
theorem kids_len (l : List Node) (d : Int) (k : Nat) : (kids l d k).length ≤ k := by
  unfold kids
  rw [List.length_map]
  exact Nat.le_trans (List.length_filter_le _ _) (by simp; omega)
theorem kids_add (l : List Int) (a : Int) : intV l ++ [[V.int .i64 a]] = intV (l ++ [a]) := by simp [intV]
def childrenCon : Con := goodCon1 fun l d K => K (.lst (intV (childF l d)))
theorem ch_con {n : Nat} (hn : 6 ≤ n) : ConOk (evalF Try.prog cfgN n) 29 childrenCon := by
  intro vs bs K h
  unfold childrenCon goodCon1 at h
  split at h
  · rename_i nx xs d
    obtain ⟨l, rfl, hg, hK⟩ := h
    have hb : l.length ≤ 100000 := by have := hg.2.1; omega
    refine run_of (lp := lpOf [(5, chL fun _ _ x m => ∃ k : Nat, x.i = (k : Int) ∧ k + m = l.length ∧ x.ys = intV (kids l d k) ∧ x.n = (kids l d k).length ∧ x.m = (kids l d k).length)]) (by omega) (ct := ctOf [(51, withinCon)]) (fun k hk => ctOf_ok (ctOf_cons (wi_con (by omega)) (ctOf_nil _))) ?_
    rw [ch_vc]
    unfold childF at hK
    refine ⟨l, rfl, hb, mode_le hg d, br_iff.2 ⟨fun g => ?_, fun g => ?_⟩⟩ <;> simp only [br_iff, need_iff, andB_t, andB_f, orB_t, orB_f, notB_t, notB_f, leI_t, leI_f, ltI_t, ltI_f, eqI_t, eqI_f, leN_t, leN_f, eqN_t, eqN_f, eqS_t, eqS_f, eqB_t, eqB_f, catOk_t, leC_t] at g
    · rw [if_neg g] at hK; exact hK
    · rw [if_pos g] at hK
      simp only [nodeV_lenL]
      refine ⟨⟨l.length, by omega, 0, rfl, by omega, rfl, rfl, rfl⟩, ?_⟩
      rintro ⟨a, b, ys, i⟩ m ⟨k, hi, hk, e1, e2, e3⟩
      dsimp only at hi e1 e2 e3 ⊢
      subst hi e1 e2 e3
      have hkl := kids_len l d k
      rw [br_iff]
      refine ⟨fun hlt => ?_, fun hge => ?_⟩
      · have hlt : k < l.length := by simp only [br_iff, need_iff, andB_t, andB_f, orB_t, orB_f, notB_t, notB_f, leI_t, leI_f, ltI_t, ltI_f, eqI_t, eqI_f, leN_t, leN_f, eqN_t, eqN_f, eqS_t, eqS_f, eqB_t, eqB_f, catOk_t, leC_t] at hlt; omega
        have gf : l[k]? = some l[k] := List.getElem?_eq_getElem hlt
        generalize l[k] = f at gf
        have rf := nodeV_row gf
        have kf : okRow (nodeV l) (Int.toNat (k : Int)) 11 = true := by simpa using nodeV_ok (l := l) (i := k) hlt
        have nf : andB (leI 0 (k : Int)) (ltI (k : Int) (l.length : Int)) = true := by simp only [br_iff, need_iff, andB_t, andB_f, orB_t, orB_f, notB_t, notB_f, leI_t, leI_f, ltI_t, ltI_f, eqI_t, eqI_f, leN_t, leN_f, eqN_t, eqN_f, eqS_t, eqS_f, eqB_t, eqB_f, catOk_t, leC_t]; omega
        rw [need_iff, need_iff]
        refine ⟨nf, kf, ?_⟩
        try rw [rf]
        repeat apply Exists.intro
        refine ⟨rfl, ?_⟩
        have no : kidP d f = false → ∃ m' : Nat, m' < m ∧ ∃ k' : Nat, addI .i64 (k : Int) 1 = (k' : Int) ∧ k' + m' = l.length ∧ intV (kids l d k) = intV (kids l d k') ∧ (kids l d k).length = (kids l d k').length ∧ (kids l d k).length = (kids l d k').length :=
          fun q => ⟨m - 1, by omega, k + 1, by rw [addI_i64 (by omega) (by omega)]; omega, by omega, by rw [kids_no gf q], by rw [kids_no gf q], by rw [kids_no gf q]⟩
        refine br_iff.2 ⟨fun g1 => br_iff.2 ⟨fun g2 => need_iff.2 ⟨intV_head _, ?_⟩, fun g2 => ⟨by trivial, no ?_⟩⟩, fun g1 => ⟨by trivial, no ?_⟩⟩
        · simp only [br_iff, need_iff, andB_t, andB_f, orB_t, orB_f, notB_t, notB_f, leI_t, leI_f, ltI_t, ltI_f, eqI_t, eqI_f, leN_t, leN_f, eqN_t, eqN_f, eqS_t, eqS_f, eqB_t, eqB_f, catOk_t, leC_t] at g1 g2
          have q : kidP d f = true := by rw [kidP_t]; exact ⟨g1, g2⟩
          refine app_br rfl (intV_len _) (by omega) ⟨by trivial, m - 1, by omega, k + 1, by rw [addI_i64 (by omega) (by omega)]; omega, by omega, ?_, ?_, ?_⟩
          · rw [List.drop_zero, kids_add, kids_yes gf q]
          · rw [kids_yes gf q]; simp
          · rw [kids_yes gf q]; simp
        · rw [kidP_f]; simp only [br_iff, need_iff, andB_t, andB_f, orB_t, orB_f, notB_t, notB_f, leI_t, leI_f, ltI_t, ltI_f, eqI_t, eqI_f, leN_t, leN_f, eqN_t, eqN_f, eqS_t, eqS_f, eqB_t, eqB_f, catOk_t, leC_t] at g2; exact fun q => q.2 g2
        · rw [kidP_f]; simp only [br_iff, need_iff, andB_t, andB_f, orB_t, orB_f, notB_t, notB_f, leI_t, leI_f, ltI_t, ltI_f, eqI_t, eqI_f, leN_t, leN_f, eqN_t, eqN_f, eqS_t, eqS_f, eqB_t, eqB_f, catOk_t, leC_t] at g1; exact fun q => g1 q.1
      · have : k = l.length := by simp only [br_iff, need_iff, andB_t, andB_f, orB_t, orB_f, notB_t, notB_f, leI_t, leI_f, ltI_t, ltI_f, eqI_t, eqI_f, leN_t, leN_f, eqN_t, eqN_f, eqS_t, eqS_f, eqB_t, eqB_f, catOk_t, leC_t] at hge; omega
        subst this
        rw [List.drop_zero, List.take_of_length_le (by rw [intV_len]; omega)]
        exact hK
  · exact h.elim
theorem kids_none {n : Int} {l : List Node} (h : goodT n l) {d : Int} (hd : withinF l d ≠ 0) : kids l d l.length = [] := by
  unfold kids
  rw [List.take_length, List.map_eq_nil_iff, List.filter_eq_nil_iff]
  intro x hx
  rw [kidP_t]
  rintro ⟨h1, h2⟩
  obtain ⟨j, gx⟩ := List.mem_iff_getElem?.1 hx
  have hj : 0 < j := by
    rcases Nat.eq_zero_or_pos j with q | q
    · exact absurd ((good_head h gx).2 q) h2
    · exact q
  obtain ⟨k, y, hk, gy, e1, e2⟩ := ((h.2.2.2 j x gx).2.2.2 hj).2.1
  have := good_node h gy
  rw [e1, h1] at this
  exact hd (by unfold withinF; rw [this.2, this.1, if_pos rfl, if_pos e2])
theorem rc_con {n : Nat} (hn : 1 ≤ n) : ConOk (evalF Try.prog cfgN n) 30 childrenCon := by
  intro vs bs K h
  unfold childrenCon goodCon1 at h
  split at h
  · rename_i nx xs d
    obtain ⟨l, rfl, hg, hK⟩ := h
    have hb : l.length ≤ 100000 := by have := hg.2.1; omega
    have h1 := hg.1
    have e : childF l d = kids l d l.length := by
      unfold childF
      split
      · rfl
      · rw [kids_none hg (by assumption)]
    rw [e] at hK
    refine run_of (lp := lpOf [(3, rcL fun _ _ x m => ∃ k : Nat, x.i = (k : Int) ∧ 1 ≤ k ∧ k + m = l.length ∧ x.ys = intV (kids l d k) ∧ x.n = (kids l d k).length ∧ x.m = (kids l d k).length)]) (by omega) (fun k hk => noCt_ok _) ?_
    rw [rc_vc]
    simp only [nodeV_lenL]
    have k1 : kids l d 1 = [] := by
      have g0 : l[0]? = some l[0] := List.getElem?_eq_getElem (by omega)
      rw [kids_no (k := 0) g0 (by rw [kidP_f]; exact fun q => q.2 ((good_head hg g0).2 rfl))]
      rfl
    refine ⟨⟨l.length - 1, by omega, 1, rfl, by omega, by omega, by rw [k1]; rfl, by rw [k1]; rfl, by rw [k1]; rfl⟩, ?_⟩
    rintro ⟨a, b, ys, i⟩ m ⟨k, hi, hk1, hk, e1, e2, e3⟩
    dsimp only at hi e1 e2 e3 ⊢
    subst hi e1 e2 e3
    have hkl := kids_len l d k
    rw [br_iff]
    refine ⟨fun hlt => ?_, fun hge => ?_⟩
    · have hlt : k < l.length := by simp only [br_iff, need_iff, andB_t, andB_f, orB_t, orB_f, notB_t, notB_f, leI_t, leI_f, ltI_t, ltI_f, eqI_t, eqI_f, leN_t, leN_f, eqN_t, eqN_f, eqS_t, eqS_f, eqB_t, eqB_f, catOk_t, leC_t] at hlt; omega
      have gf : l[k]? = some l[k] := List.getElem?_eq_getElem hlt
      generalize l[k] = f at gf
      have rf := nodeV_row gf
      have kf : okRow (nodeV l) (Int.toNat (k : Int)) 11 = true := by simpa using nodeV_ok (l := l) (i := k) hlt
      have nf : andB (leI 0 (k : Int)) (ltI (k : Int) (l.length : Int)) = true := by simp only [br_iff, need_iff, andB_t, andB_f, orB_t, orB_f, notB_t, notB_f, leI_t, leI_f, ltI_t, ltI_f, eqI_t, eqI_f, leN_t, leN_f, eqN_t, eqN_f, eqS_t, eqS_f, eqB_t, eqB_f, catOk_t, leC_t]; omega
      rw [need_iff, need_iff]
      refine ⟨nf, kf, ?_⟩
      try rw [rf]
      repeat apply Exists.intro
      refine ⟨rfl, ?_⟩
      have hid : f.id ≠ 1 := fun q => by have := (good_head hg gf).1 q; omega
      refine br_iff.2 ⟨fun g1 => ?_, fun g1 => ⟨by trivial, m - 1, by omega, k + 1, by rw [addI_i64 (by omega) (by omega)]; omega, by omega, by omega, ?_⟩⟩
      · skip
        rw [need_iff, need_iff]
        refine ⟨nf, kf, ?_⟩
        try rw [rf]
        repeat apply Exists.intro
        refine ⟨rfl, ?_⟩
        simp only [br_iff, need_iff, andB_t, andB_f, orB_t, orB_f, notB_t, notB_f, leI_t, leI_f, ltI_t, ltI_f, eqI_t, eqI_f, leN_t, leN_f, eqN_t, eqN_f, eqS_t, eqS_f, eqB_t, eqB_f, catOk_t, leC_t] at g1
        have q : kidP d f = true := by rw [kidP_t]; exact ⟨g1, hid⟩
        refine need_iff.2 ⟨intV_head _, app_br rfl (intV_len _) (by omega) ⟨by trivial, m - 1, by omega, k + 1, by rw [addI_i64 (by omega) (by omega)]; omega, by omega, by omega, ?_, ?_, ?_⟩⟩
        · rw [List.drop_zero, kids_add, kids_yes gf q]
        · rw [kids_yes gf q]; simp
        · rw [kids_yes gf q]; simp
      · have q : kidP d f = false := by rw [kidP_f]; simp only [br_iff, need_iff, andB_t, andB_f, orB_t, orB_f, notB_t, notB_f, leI_t, leI_f, ltI_t, ltI_f, eqI_t, eqI_f, leN_t, leN_f, eqN_t, eqN_f, eqS_t, eqS_f, eqB_t, eqB_f, catOk_t, leC_t] at g1; exact fun q => g1 q.1
        exact ⟨by rw [kids_no gf q], by rw [kids_no gf q], by rw [kids_no gf q]⟩
    · have : k = l.length := by simp only [br_iff, need_iff, andB_t, andB_f, orB_t, orB_f, notB_t, notB_f, leI_t, leI_f, ltI_t, ltI_f, eqI_t, eqI_f, leN_t, leN_f, eqN_t, eqN_f, eqS_t, eqS_f, eqB_t, eqB_f, catOk_t, leC_t] at hge; omega
      subst this
      rw [List.drop_zero, List.take_of_length_le (by rw [intV_len]; omega)]
      exact hK
  · exact h.elim
end Go.Proofs.Ytepehbbagbfmcaa
namespace Go.Proofs.Ytepehbbagbfmcaa
open Go.RowKit
set_option maxRecDepth 100000
set_option linter.unusedVariables false
set_option linter.unusedSimpArgs false
def pathG (l : List Node) : Nat → Node → List UInt8 → List UInt8
  | 0, _, p => p
  | f + 1, x, p => if x.id = 1 then p else pathG l f (nodeF l x.par) (47 :: x.name ++ p)
def pathOf (l : List Node) (x : Node) : List UInt8 := pathG l l.length x []
def pathF (l : List Node) (s : Int) : List UInt8 × Int := if hasB l s = true then (if s = 1 then [47] else pathOf l (nodeF l s), 0) else ([], 8)
/-- The parent of a node that is not the root. -/
theorem good_par {n : Int} {l : List Node} (h : goodT n l) {j : Nat} {x : Node} (gx : l[j]? = some x) (hx : x.id ≠ 1) : ∃ (k : Nat) (y : Node), k < j ∧ l[k]? = some y ∧ y.id = x.par ∧ dirB y.mode = true ∧ nodeF l x.par = y ∧ hasB l x.par = true ∧ x.name.length ≤ 64 ∧ x.name ≠ [] := by
  have hj : 0 < j := by
    rcases Nat.eq_zero_or_pos j with q | q
    · exact absurd ((good_head h gx).2 q) hx
    · exact q
  obtain ⟨hnm, ⟨k, y, hk, gy, e1, e2⟩, _⟩ := (h.2.2.2 j x gx).2.2.2 hj
  have := good_node h gy
  rw [e1] at this
  simp only [nameB, Bool.and_eq_true, decide_eq_true_eq] at hnm
  exact ⟨k, y, hk, gy, e1, e2, this.1, this.2, hnm.1.2.2.2, hnm.1.1⟩
theorem pathG_stable {n : Int} {l : List Node} (h : goodT n l) : ∀ (f j : Nat) (x : Node) (p : List UInt8), l[j]? = some x → j < f → pathG l (f + 1) x p = pathG l f x p
  | 0, j, x, p, _, hj => by omega
  | f + 1, j, x, p, gx, hj => by
    show (if x.id = 1 then p else pathG l (f + 1) (nodeF l x.par) (47 :: x.name ++ p)) = (if x.id = 1 then p else pathG l f (nodeF l x.par) (47 :: x.name ++ p))
    by_cases hx : x.id = 1
    · rw [if_pos hx, if_pos hx]
    · rw [if_neg hx, if_neg hx]
      obtain ⟨k, y, hk, gy, _, _, e, _⟩ := good_par h gx hx
      rw [e]
      exact pathG_stable h f k y _ gy (by omega)
theorem pathG_step {n : Int} {l : List Node} (h : goodT n l) {j : Nat} {x : Node} {p : List UInt8} (gx : l[j]? = some x) (hx : x.id ≠ 1) : pathG l l.length x p = pathG l l.length (nodeF l x.par) (47 :: x.name ++ p) := by
  have hj := (List.getElem?_eq_some_iff.1 gx).1
  obtain ⟨k, y, hk, gy, _, _, e, _⟩ := good_par h gx hx
  obtain ⟨q, hq⟩ : ∃ q, l.length = q + 1 := ⟨l.length - 1, by omega⟩
  rw [hq, pathG, if_neg hx, e]
  exact (pathG_stable h q k y _ gy (by omega)).symm
theorem pathG_root {l : List Node} {x : Node} {p : List UInt8} (hx : x.id = 1) (hl : 1 ≤ l.length) : pathG l l.length x p = p := by
  obtain ⟨q, hq⟩ : ∃ q, l.length = q + 1 := ⟨l.length - 1, by omega⟩
  rw [hq, pathG, if_pos hx]
def pathCon : Con := goodCon1 fun l d K => K (.tup [.str (pathF l d).1, .int .i64 (pathF l d).2])
theorem pa_con {n : Nat} (hn : 5 ≤ n) : ConOk (evalF Try.prog cfgN n) 23 pathCon := by
  intro vs bs K h
  unfold pathCon goodCon1 at h
  split at h
  · rename_i nx xs s
    obtain ⟨l, rfl, hg, hK⟩ := h
    have hb : l.length ≤ 100000 := by have := hg.2.1; omega
    have h1 := hg.1
    have h2 := hg.2.1
    refine run_of (lp := lpOf [(8, paL fun _ _ x m => ∃ (k i : Nat) (f : Node), l[k]? = some f ∧ x.x0 = f.id ∧ x.x1 = f.par ∧ x.x3 = f.name ∧ x.ok = true ∧ x.i = (i : Int) ∧ i + k ≤ l.length ∧ m = k ∧ x.p.length ≤ 65 * i ∧ pathG l l.length f x.p = pathOf l (nodeF l s))]) (by omega) (ct := ctOf [(26, nodeCon)]) (fun k hk => ctOf_ok (ctOf_cons (no_con (by omega)) (ctOf_nil _))) ?_
    rw [pa_vc]
    unfold pathF at hK
    refine ⟨l, rfl, hb, br_iff.2 ⟨fun g => ?_, fun g => br_iff.2 ⟨fun g2 => ?_, fun g2 => ?_⟩⟩⟩ <;> simp only [br_iff, need_iff, andB_t, andB_f, orB_t, orB_f, notB_t, notB_f, leI_t, leI_f, ltI_t, ltI_f, eqI_t, eqI_f, leN_t, leN_f, eqN_t, eqN_f, eqS_t, eqS_f, eqB_t, eqB_f, catOk_t, leC_t] at g
    · rw [if_neg (by simp [g])] at hK; exact hK
    · simp only [br_iff, need_iff, andB_t, andB_f, orB_t, orB_f, notB_t, notB_f, leI_t, leI_f, ltI_t, ltI_f, eqI_t, eqI_f, leN_t, leN_f, eqN_t, eqN_f, eqS_t, eqS_f, eqB_t, eqB_f, catOk_t, leC_t] at g2
      rw [if_pos g, if_pos g2] at hK; exact hK
    · simp only [br_iff, need_iff, andB_t, andB_f, orB_t, orB_f, notB_t, notB_f, leI_t, leI_f, ltI_t, ltI_f, eqI_t, eqI_f, leN_t, leN_f, eqN_t, eqN_f, eqS_t, eqS_f, eqB_t, eqB_f, catOk_t, leC_t] at g2
      rw [if_pos g, if_neg g2] at hK
      simp only [nodeV_lenL]
      obtain ⟨k0, x0, gx0, ex0, en0, hlt0⟩ := has_at g
      rw [en0] at hK ⊢
      refine ⟨⟨k0, by omega, k0, 0, x0, gx0, rfl, rfl, rfl, g, rfl, by omega, rfl, by simp, rfl⟩, ?_⟩
      rintro ⟨a0, a1, a2, a3, a4, a5, a6, a7, a8, a9, a10, ok, p, i⟩ m ⟨k, i', f, gf, e0, e1, e3, eo, ei, hik, em, hp, hpath⟩
      dsimp only at e0 e1 e3 eo ei em hp hpath ⊢
      subst e0 e1 e3 eo ei em
      refine br_iff.2 ⟨fun g3 => ?_, fun g3 => ?_⟩
      · simp only [br_iff, need_iff, andB_t, andB_f, orB_t, orB_f, notB_t, notB_f, leI_t, leI_f, ltI_t, ltI_f, eqI_t, eqI_f, leN_t, leN_f, eqN_t, eqN_f, eqS_t, eqS_f, eqB_t, eqB_f, catOk_t, leC_t] at g3
        obtain ⟨k', y, hk', gy, ey, _, en, hh, hnl, _⟩ := good_par hg gf g3
        refine br_iff.2 ⟨fun _ => br_iff.2 ⟨fun _ => ?_, fun g5 => ?_⟩, fun g4 => by cases g4⟩
        · refine need_iff.2 ⟨by rw [catOk_t]; simp; omega, need_iff.2 ⟨by rw [catOk_t]; simp; omega, l, rfl, hb, by trivial, k', by omega, k', i' + 1, y, gy, by rw [en], by rw [en], by rw [en], hh, by rw [addI_i64 (by omega) (by omega)]; omega, by omega, rfl, ?_, ?_⟩⟩
          · simp [catS]; omega
          · rw [← hpath, pathG_step hg gf g3, en]
            rfl
        · simp only [br_iff, need_iff, andB_t, andB_f, orB_t, orB_f, notB_t, notB_f, leI_t, leI_f, ltI_t, ltI_f, eqI_t, eqI_f, leN_t, leN_f, eqN_t, eqN_f, eqS_t, eqS_f, eqB_t, eqB_f, catOk_t, leC_t] at g5; omega
      · simp only [br_iff, need_iff, andB_t, andB_f, orB_t, orB_f, notB_t, notB_f, leI_t, leI_f, ltI_t, ltI_f, eqI_t, eqI_f, leN_t, leN_f, eqN_t, eqN_f, eqS_t, eqS_f, eqB_t, eqB_f, catOk_t, leC_t] at g3
        rw [pathG_root g3 h1] at hpath
        rw [hpath]; exact hK
  · exact h.elim
theorem rp_con {n : Nat} (hn : 3 ≤ n) : ConOk (evalF Try.prog cfgN n) 28 pathCon := by
  intro vs bs K h
  unfold pathCon goodCon1 at h
  split at h
  · rename_i nx xs s
    obtain ⟨l, rfl, hg, hK⟩ := h
    have hb : l.length ≤ 100000 := by have := hg.2.1; omega
    have h1 := hg.1
    have h2 := hg.2.1
    refine run_of (lp := lpOf [(6, rpL fun _ _ x m => ∃ (k i : Nat) (f : Node), l[k]? = some f ∧ x.x0 = f.id ∧ x.x1 = f.par ∧ x.x3 = f.name ∧ x.i = (i : Int) ∧ i + k ≤ l.length ∧ m = k ∧ x.p.length ≤ 65 * i ∧ (x.p = [] → i = 0) ∧ (i = 0 → f = nodeF l s) ∧ pathG l l.length f x.p = pathOf l (nodeF l s))]) (by omega) (ct := ctOf [(21, nodeCon)]) (fun k hk => ctOf_ok (ctOf_cons (rno_con (by omega)) (ctOf_nil _))) ?_
    rw [rp_vc]
    unfold pathF at hK
    refine ⟨l, rfl, hb, br_iff.2 ⟨fun g => ?_, fun g => ?_⟩⟩ <;> simp only [br_iff, need_iff, andB_t, andB_f, orB_t, orB_f, notB_t, notB_f, leI_t, leI_f, ltI_t, ltI_f, eqI_t, eqI_f, leN_t, leN_f, eqN_t, eqN_f, eqS_t, eqS_f, eqB_t, eqB_f, catOk_t, leC_t] at g
    · rw [if_neg (by simp [g])] at hK; exact hK
    · rw [if_pos g] at hK
      simp only [nodeV_lenL]
      obtain ⟨k0, x0, gx0, ex0, en0, hlt0⟩ := has_at g
      rw [en0] at hK ⊢
      refine ⟨⟨k0, by omega, k0, 0, x0, gx0, rfl, rfl, rfl, rfl, by omega, rfl, by simp, fun _ => rfl, fun _ => rfl, rfl⟩, ?_⟩
      rintro ⟨a0, a1, a2, a3, a4, a5, a6, a7, a8, a9, a10, p, i⟩ m ⟨k, i', f, gf, e0, e1, e3, ei, hik, em, hp, hz, hz2, hpath⟩
      dsimp only at e0 e1 e3 ei em hp hz hz2 hpath ⊢
      subst e0 e1 e3 ei em
      refine br_iff.2 ⟨fun _ => br_iff.2 ⟨fun g3 => ?_, fun g3 => ?_⟩, fun g4 => ?_⟩
      · simp only [br_iff, need_iff, andB_t, andB_f, orB_t, orB_f, notB_t, notB_f, leI_t, leI_f, ltI_t, ltI_f, eqI_t, eqI_f, leN_t, leN_f, eqN_t, eqN_f, eqS_t, eqS_f, eqB_t, eqB_f, catOk_t, leC_t] at g3
        obtain ⟨k', y, hk', gy, ey, _, en, hh, hnl, _⟩ := good_par hg gf g3
        refine need_iff.2 ⟨by rw [catOk_t]; simp; omega, need_iff.2 ⟨by rw [catOk_t]; simp; omega, l, rfl, hb, by trivial, k', by omega, k', i' + 1, y, gy, by rw [en], by rw [en], by rw [en], by rw [addI_i64 (by omega) (by omega)]; omega, by omega, rfl, ?_, ?_, ?_, ?_⟩⟩
        · simp [catS]; omega
        · intro q; simp at q
        · intro q; omega
        · rw [← hpath, pathG_step hg gf g3, en]
          rfl
      · simp only [br_iff, need_iff, andB_t, andB_f, orB_t, orB_f, notB_t, notB_f, leI_t, leI_f, ltI_t, ltI_f, eqI_t, eqI_f, leN_t, leN_f, eqN_t, eqN_f, eqS_t, eqS_f, eqB_t, eqB_f, catOk_t, leC_t] at g3
        rw [pathG_root g3 h1] at hpath
        refine br_iff.2 ⟨fun g5 => ?_, fun g5 => ?_⟩ <;> simp only [br_iff, need_iff, andB_t, andB_f, orB_t, orB_f, notB_t, notB_f, leI_t, leI_f, ltI_t, ltI_f, eqI_t, eqI_f, leN_t, leN_f, eqN_t, eqN_f, eqS_t, eqS_f, eqB_t, eqB_f, catOk_t, leC_t] at g5
        · have := hz2 (hz g5)
          subst this
          rw [if_pos (by omega)] at hK; exact hK
        · have hs : s ≠ 1 := by
            rintro rfl
            have : k0 = 0 := (good_head hg gx0).1 ex0
            rw [pathOf, pathG_root ex0 h1] at hpath
            exact g5 hpath
          rw [if_neg hs, ← hpath] at hK; exact hK
      · simp only [br_iff, need_iff, andB_t, andB_f, orB_t, orB_f, notB_t, notB_f, leI_t, leI_f, ltI_t, ltI_f, eqI_t, eqI_f, leN_t, leN_f, eqN_t, eqN_f, eqS_t, eqS_f, eqB_t, eqB_f, catOk_t, leC_t] at g4; omega
  · exact h.elim
end Go.Proofs.Ytepehbbagbfmcaa
