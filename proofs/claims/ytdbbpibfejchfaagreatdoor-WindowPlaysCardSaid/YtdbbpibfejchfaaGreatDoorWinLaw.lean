/- Windows: conditions of the reference's validity and equality, and of the statements' helpers. -/
import Derived.Test.YtdbbpibfejchfaaGreatDoorWinWalk
import Derived.Test.YtdbbpibfejchfaaGreatDoorWinCall
import Derived.Test.YtdbbpibfejchfaaGreatDoorWinBase
namespace Go.Proofs.YtdbbpibfejchfaaGreatDoor
open Go.RowKit
set_option maxRecDepth 100000
set_option linter.unusedVariables false
set_option linter.unusedSimpArgs false
def okCon : Con := fun vs bs K => match vs, bs with
  | [], [] => K (.bool true) []
  | _, _ => False

def smT (l : List Window) (b : Bool) : Prop := b = true → l.length ≤ 20 ∧ ∀ x ∈ l, x.label.length ≤ 200 ∧ x.text.length ≤ 70000 ∧ x.line.text.length ≤ 2000 ∧ x.line.ready.length ≤ 20

def smCon : Con := fun vs bs K => match vs, bs with
  | [.agg [.int .i64 n, .int .i64 f, .lst xs]], [] => ∃ l, xs = windowV l ∧ ∀ b : Bool, smT l b → K (.bool b) []
  | _, _ => False

def sameLineCon : Con := fun vs bs K => match vs, bs with
  | [.agg [.bool r, .str t, .lst xs], .agg [.bool r2, .str t2, .lst ys]], [] => ∃ l : List (List UInt8), xs = strV l ∧ ys = strV l ∧ l.length ≤ 100000 ∧ r = r2 ∧ t = t2 ∧ K (.bool true) []
  | _, _ => False

def sameWinCon : Con := fun vs bs K => match vs, bs with
  | [.agg [.int .i64 id, .str lb, .bool r, .str t, .lst xs, .str tx, .int .i64 op, .bool g], .agg [.int .i64 id2, .str lb2, .bool r2, .str t2, .lst ys, .str tx2, .int .i64 op2, .bool g2]], [] => ∃ l : List (List UInt8), xs = strV l ∧ ys = strV l ∧ l.length ≤ 100000 ∧ id = id2 ∧ lb = lb2 ∧ r = r2 ∧ t = t2 ∧ tx = tx2 ∧ op = op2 ∧ g = g2 ∧ K (.bool true) []
  | _, _ => False

def sameCon : Con := fun vs bs K => match vs, bs with
  | [.agg [.int .i64 n, .int .i64 f, .lst xs], .agg [.int .i64 n2, .int .i64 f2, .lst ys]], [] => ∃ l, xs = windowV l ∧ ys = windowV l ∧ smallL l ∧ n = n2 ∧ f = f2 ∧ K (.bool true) []
  | _, _ => False

def seenCon : Con := fun vs bs K => match vs, bs with
  | [.agg [.int .i64 n, .int .i64 f, .lst xs], .int .i64 id], [] => ∃ l, xs = windowV l ∧ l.length ≤ 100000 ∧ K (.bool (seenW l id)) []
  | _, _ => False

def exB (l : List Window) (id : Int) : Bool := (fileF l id).isSome

def dirB (id : Int) : Bool := decide (id = 1) || (decide (16 ≤ id) && decide (id % 16 = 0))

def modeF (id : Int) : Int := if dirB id = true then 2147484013 else if id = 2 then 438 else modeK (id % 16)

def exCon : Con := fun vs bs K => match vs, bs with
  | [.agg [.int .i64 n, .int .i64 f, .lst xs], .int .i64 id], [] => ∃ l, xs = windowV l ∧ l.length ≤ 100000 ∧ id ≤ 9223372036854775807 ∧ K (.bool (exB l id)) []
  | _, _ => False

def dirCon : Con := fun vs bs K => match vs, bs with
  | [.int .i64 id], [] => K (.bool (dirB id)) []
  | _, _ => False

def modeCon : Con := fun vs bs K => match vs, bs with
  | [.int .i64 id], [] => 0 ≤ id ∧ K (.int .i64 (modeF id)) []
  | _, _ => False

def didCon : Con := fun vs bs K => match vs, bs with
  | [.agg [.int .i64 n, .int .i64 f, .lst xs], .agg [.int .i64 k, .int .i64 a, .int .i64 m, .int .i64 o, .int .i64 c, .str t]], [] => ∃ l, xs = windowV l ∧ rightW ⟨n, f, l⟩ = true ∧ a ≤ 9223372036854775807 ∧ m ≤ 9223372036854775807 ∧ -9223372036854775808 ≤ m ∧ t.length ≤ 100000 ∧
      K (.tup [.agg [.int .i64 (didF ⟨n, f, l⟩ ⟨k, a, m, o, c, t⟩).1.next, .int .i64 (didF ⟨n, f, l⟩ ⟨k, a, m, o, c, t⟩).1.focus, .lst (windowV (didF ⟨n, f, l⟩ ⟨k, a, m, o, c, t⟩).1.l)], .agg [.int .i64 (didF ⟨n, f, l⟩ ⟨k, a, m, o, c, t⟩).2.n, .str (didF ⟨n, f, l⟩ ⟨k, a, m, o, c, t⟩).2.text, .bool (didF ⟨n, f, l⟩ ⟨k, a, m, o, c, t⟩).2.blocked, .int .i64 (didF ⟨n, f, l⟩ ⟨k, a, m, o, c, t⟩).2.err]]) []
  | _, _ => False

structure smC where
  n : Int
  f : Int
  xs : List (List V)
  cnt : Int
structure smX where
  i : Int
def smSt (c : smC) (x : smX) : St := ⟨[(1, .ptr 0 0 0), (12, .int .i64 c.cnt), (13, .int .i64 x.i)], [(0, ⟨true, true, true, [[.int .i64 c.n, .int .i64 c.f, .lst c.xs]], 0⟩)]⟩
set_option maxHeartbeats 4000000 in
def smUn (s : St) : Option (smC × smX) :=
  match s with
  | ⟨[(q0, .ptr q1 q2 q3), (q4, .int .i64 cnt), (q5, .int .i64 i)], [(q6, ⟨true, true, true, [[.int .i64 n, .int .i64 f, .lst xs]], q7⟩)]⟩ => bif Nat.beq q0 1 && Nat.beq q1 0 && Nat.beq q2 0 && Nat.beq q3 0 && Nat.beq q4 12 && Nat.beq q5 13 && Nat.beq q6 0 && Nat.beq q7 0 then some (⟨n, f, xs, cnt⟩, ⟨i⟩) else none
  | _ => none
set_option maxHeartbeats 4000000 in
def smL (inv : smC → smX → smX → Nat → Prop) : LoopS where
  C := smC
  X := smX
  st := smSt
  un := smUn
  ok := by
    intro s c x h
    unfold smUn at h
    split at h
    · simp only [Bool.cond_eq_ite] at h
      split at h
      · rename_i hg
        simp only [Bool.and_eq_true, Nat.beq_eq] at hg
        obtain ⟨⟨⟨⟨⟨⟨⟨rfl, rfl⟩, rfl⟩, rfl⟩, rfl⟩, rfl⟩, rfl⟩, rfl⟩ := hg
        cases h
        rfl
      · cases h
    · cases h
  inv := inv

structure siC where
  n : Int
  f : Int
  xs : List (List V)
  cnt : Int
  i : Int
  id : Int
  lb : List UInt8
  r : Bool
  t : List UInt8
  ys : List (List V)
  tx : List UInt8
  op : Int
  g : Bool
  cnt2 : Int
structure siX where
  k : Int
def siSt (c : siC) (x : siX) : St := ⟨[(1, .ptr 0 0 0), (4, .ptr 1 0 0), (12, .int .i64 c.cnt), (13, .int .i64 c.i), (48, .int .i64 c.cnt2), (49, .int .i64 x.k)], [(0, ⟨true, true, true, [[.int .i64 c.n, .int .i64 c.f, .lst c.xs]], 0⟩), (1, ⟨true, true, true, [[.int .i64 c.id, .str c.lb, .bool c.r, .str c.t, .lst c.ys, .str c.tx, .int .i64 c.op, .bool c.g]], 0⟩)]⟩
set_option maxHeartbeats 4000000 in
def siUn (s : St) : Option (siC × siX) :=
  match s with
  | ⟨[(q0, .ptr q1 q2 q3), (q4, .ptr q5 q6 q7), (q8, .int .i64 cnt), (q9, .int .i64 i), (q10, .int .i64 cnt2), (q11, .int .i64 k)], [(q12, ⟨true, true, true, [[.int .i64 n, .int .i64 f, .lst xs]], q13⟩), (q14, ⟨true, true, true, [[.int .i64 id, .str lb, .bool r, .str t, .lst ys, .str tx, .int .i64 op, .bool g]], q15⟩)]⟩ => bif Nat.beq q0 1 && Nat.beq q1 0 && Nat.beq q2 0 && Nat.beq q3 0 && Nat.beq q4 4 && Nat.beq q5 1 && Nat.beq q6 0 && Nat.beq q7 0 && Nat.beq q8 12 && Nat.beq q9 13 && Nat.beq q10 48 && Nat.beq q11 49 && Nat.beq q12 0 && Nat.beq q13 0 && Nat.beq q14 1 && Nat.beq q15 0 then some (⟨n, f, xs, cnt, i, id, lb, r, t, ys, tx, op, g, cnt2⟩, ⟨k⟩) else none
  | _ => none
set_option maxHeartbeats 4000000 in
def siL (inv : siC → siX → siX → Nat → Prop) : LoopS where
  C := siC
  X := siX
  st := siSt
  un := siUn
  ok := by
    intro s c x h
    unfold siUn at h
    split at h
    · simp only [Bool.cond_eq_ite] at h
      split at h
      · rename_i hg
        simp only [Bool.and_eq_true, Nat.beq_eq] at hg
        obtain ⟨⟨⟨⟨⟨⟨⟨⟨⟨⟨⟨⟨⟨⟨⟨rfl, rfl⟩, rfl⟩, rfl⟩, rfl⟩, rfl⟩, rfl⟩, rfl⟩, rfl⟩, rfl⟩, rfl⟩, rfl⟩, rfl⟩, rfl⟩, rfl⟩, rfl⟩ := hg
        cases h
        rfl
      · cases h
    · cases h
  inv := inv

structure slC where
  r : Bool
  t : List UInt8
  xs : List (List V)
  r2 : Bool
  t2 : List UInt8
  ys : List (List V)
  cnt : Int
structure slX where
  i : Int
def slSt (c : slC) (x : slX) : St := ⟨[(2, .ptr 0 0 0), (3, .ptr 1 0 0), (29, .int .i64 c.cnt), (30, .int .i64 x.i)], [(0, ⟨true, true, true, [[.bool c.r, .str c.t, .lst c.xs]], 0⟩), (1, ⟨true, true, true, [[.bool c.r2, .str c.t2, .lst c.ys]], 0⟩)]⟩
set_option maxHeartbeats 4000000 in
def slUn (s : St) : Option (slC × slX) :=
  match s with
  | ⟨[(q0, .ptr q1 q2 q3), (q4, .ptr q5 q6 q7), (q8, .int .i64 cnt), (q9, .int .i64 i)], [(q10, ⟨true, true, true, [[.bool r, .str t, .lst xs]], q11⟩), (q12, ⟨true, true, true, [[.bool r2, .str t2, .lst ys]], q13⟩)]⟩ => bif Nat.beq q0 2 && Nat.beq q1 0 && Nat.beq q2 0 && Nat.beq q3 0 && Nat.beq q4 3 && Nat.beq q5 1 && Nat.beq q6 0 && Nat.beq q7 0 && Nat.beq q8 29 && Nat.beq q9 30 && Nat.beq q10 0 && Nat.beq q11 0 && Nat.beq q12 1 && Nat.beq q13 0 then some (⟨r, t, xs, r2, t2, ys, cnt⟩, ⟨i⟩) else none
  | _ => none
set_option maxHeartbeats 4000000 in
def slL (inv : slC → slX → slX → Nat → Prop) : LoopS where
  C := slC
  X := slX
  st := slSt
  un := slUn
  ok := by
    intro s c x h
    unfold slUn at h
    split at h
    · simp only [Bool.cond_eq_ite] at h
      split at h
      · rename_i hg
        simp only [Bool.and_eq_true, Nat.beq_eq] at hg
        obtain ⟨⟨⟨⟨⟨⟨⟨⟨⟨⟨⟨⟨⟨rfl, rfl⟩, rfl⟩, rfl⟩, rfl⟩, rfl⟩, rfl⟩, rfl⟩, rfl⟩, rfl⟩, rfl⟩, rfl⟩, rfl⟩, rfl⟩ := hg
        cases h
        rfl
      · cases h
    · cases h
  inv := inv

structure ssC where
  n : Int
  f : Int
  xs : List (List V)
  n2 : Int
  f2 : Int
  ys : List (List V)
  cnt : Int
structure ssX where
  i : Int
def ssSt (c : ssC) (x : ssX) : St := ⟨[(2, .ptr 0 0 0), (3, .ptr 1 0 0), (29, .int .i64 c.cnt), (30, .int .i64 x.i)], [(0, ⟨true, true, true, [[.int .i64 c.n, .int .i64 c.f, .lst c.xs]], 0⟩), (1, ⟨true, true, true, [[.int .i64 c.n2, .int .i64 c.f2, .lst c.ys]], 0⟩)]⟩
set_option maxHeartbeats 4000000 in
def ssUn (s : St) : Option (ssC × ssX) :=
  match s with
  | ⟨[(q0, .ptr q1 q2 q3), (q4, .ptr q5 q6 q7), (q8, .int .i64 cnt), (q9, .int .i64 i)], [(q10, ⟨true, true, true, [[.int .i64 n, .int .i64 f, .lst xs]], q11⟩), (q12, ⟨true, true, true, [[.int .i64 n2, .int .i64 f2, .lst ys]], q13⟩)]⟩ => bif Nat.beq q0 2 && Nat.beq q1 0 && Nat.beq q2 0 && Nat.beq q3 0 && Nat.beq q4 3 && Nat.beq q5 1 && Nat.beq q6 0 && Nat.beq q7 0 && Nat.beq q8 29 && Nat.beq q9 30 && Nat.beq q10 0 && Nat.beq q11 0 && Nat.beq q12 1 && Nat.beq q13 0 then some (⟨n, f, xs, n2, f2, ys, cnt⟩, ⟨i⟩) else none
  | _ => none
set_option maxHeartbeats 4000000 in
def ssL (inv : ssC → ssX → ssX → Nat → Prop) : LoopS where
  C := ssC
  X := ssX
  st := ssSt
  un := ssUn
  ok := by
    intro s c x h
    unfold ssUn at h
    split at h
    · simp only [Bool.cond_eq_ite] at h
      split at h
      · rename_i hg
        simp only [Bool.and_eq_true, Nat.beq_eq] at hg
        obtain ⟨⟨⟨⟨⟨⟨⟨⟨⟨⟨⟨⟨⟨rfl, rfl⟩, rfl⟩, rfl⟩, rfl⟩, rfl⟩, rfl⟩, rfl⟩, rfl⟩, rfl⟩, rfl⟩, rfl⟩, rfl⟩, rfl⟩ := hg
        cases h
        rfl
      · cases h
    · cases h
  inv := inv

structure rrC where
  n : Int
  f : Int
  xs : List (List V)
  cnt : Int
structure rrX where
  last : Int
  fo : Bool
  i : Int
def rrSt (c : rrC) (x : rrX) : St := ⟨[(1, .ptr 0 0 0), (3, .int .i64 x.last), (4, .bool x.fo), (26, .int .i64 c.cnt), (27, .int .i64 x.i)], [(0, ⟨true, true, true, [[.int .i64 c.n, .int .i64 c.f, .lst c.xs]], 0⟩)]⟩
set_option maxHeartbeats 4000000 in
def rrUn (s : St) : Option (rrC × rrX) :=
  match s with
  | ⟨[(q0, .ptr q1 q2 q3), (q4, .int .i64 last), (q5, .bool fo), (q6, .int .i64 cnt), (q7, .int .i64 i)], [(q8, ⟨true, true, true, [[.int .i64 n, .int .i64 f, .lst xs]], q9⟩)]⟩ => bif Nat.beq q0 1 && Nat.beq q1 0 && Nat.beq q2 0 && Nat.beq q3 0 && Nat.beq q4 3 && Nat.beq q5 4 && Nat.beq q6 26 && Nat.beq q7 27 && Nat.beq q8 0 && Nat.beq q9 0 then some (⟨n, f, xs, cnt⟩, ⟨last, fo, i⟩) else none
  | _ => none
set_option maxHeartbeats 4000000 in
def rrL (inv : rrC → rrX → rrX → Nat → Prop) : LoopS where
  C := rrC
  X := rrX
  st := rrSt
  un := rrUn
  ok := by
    intro s c x h
    unfold rrUn at h
    split at h
    · simp only [Bool.cond_eq_ite] at h
      split at h
      · rename_i hg
        simp only [Bool.and_eq_true, Nat.beq_eq] at hg
        obtain ⟨⟨⟨⟨⟨⟨⟨⟨⟨rfl, rfl⟩, rfl⟩, rfl⟩, rfl⟩, rfl⟩, rfl⟩, rfl⟩, rfl⟩, rfl⟩ := hg
        cases h
        rfl
      · cases h
    · cases h
  inv := inv

structure raC where
  id : Int
  n : Int
  f : Int
  xs : List (List V)
  cnt : Int
structure raX where
  i : Int
def raSt (c : raC) (x : raX) : St := ⟨[(1, .int .i64 c.id), (2, .ptr 0 0 0), (8, .int .i64 c.cnt), (9, .int .i64 x.i)], [(0, ⟨true, true, true, [[.int .i64 c.n, .int .i64 c.f, .lst c.xs]], 0⟩)]⟩
set_option maxHeartbeats 4000000 in
def raUn (s : St) : Option (raC × raX) :=
  match s with
  | ⟨[(q0, .int .i64 id), (q1, .ptr q2 q3 q4), (q5, .int .i64 cnt), (q6, .int .i64 i)], [(q7, ⟨true, true, true, [[.int .i64 n, .int .i64 f, .lst xs]], q8⟩)]⟩ => bif Nat.beq q0 1 && Nat.beq q1 2 && Nat.beq q2 0 && Nat.beq q3 0 && Nat.beq q4 0 && Nat.beq q5 8 && Nat.beq q6 9 && Nat.beq q7 0 && Nat.beq q8 0 then some (⟨id, n, f, xs, cnt⟩, ⟨i⟩) else none
  | _ => none
set_option maxHeartbeats 4000000 in
def raL (inv : raC → raX → raX → Nat → Prop) : LoopS where
  C := raC
  X := raX
  st := raSt
  un := raUn
  ok := by
    intro s c x h
    unfold raUn at h
    split at h
    · simp only [Bool.cond_eq_ite] at h
      split at h
      · rename_i hg
        simp only [Bool.and_eq_true, Nat.beq_eq] at hg
        obtain ⟨⟨⟨⟨⟨⟨⟨⟨rfl, rfl⟩, rfl⟩, rfl⟩, rfl⟩, rfl⟩, rfl⟩, rfl⟩, rfl⟩ := hg
        cases h
        rfl
      · cases h
    · cases h
  inv := inv

theorem sm_vc (n f : Int) (xs : List (List V)) (I : smC → smX → smX → Nat → Prop) (J : siC → siX → siX → Nat → Prop) (K : V → List Bk → Prop) : vcF Tryz.prog cfgN (ctOf []) (lpOf [(4, smL I), (10, siL J)]) 5 [.agg [.int .i64 n, .int .i64 f, .lst xs]] [] K = (
  br (ltI 20 (lenL xs)) (
    K (V.bool false) []) (
    (∃ m6 : Nat, (((m6 : Nat) < 18446744073709551616)) ∧ (
    I (smC.mk n f xs (lenL xs)) (smX.mk 0) (smX.mk 0) m6)) ∧ (
    ∀ x6 : (smL I).X, ∀ m7 : Nat, (I (smC.mk n f xs (lenL xs)) (smX.mk 0) x6 m7) → (
    br (ltI x6.1 (lenL xs)) (
      need (andB (leI 0 x6.1) (ltI x6.1 (lenL xs))) (
      need (okRow xs x6.1.toNat 8) (
      ∃ n8 : Int, ∃ s9 : List UInt8, ∃ b10 : Bool, ∃ s11 : List UInt8, ∃ xs12 : List (List V), ∃ s13 : List UInt8, ∃ n14 : Int, ∃ b15 : Bool, ((sub (rowAt xs x6.1) 0 8 : Option (List V)) = some [V.int IntKind.i64 n8, V.str s9, V.bool b10, V.str s11, V.lst xs12, V.str s13, V.int IntKind.i64 n14, V.bool b15]) ∧ (
      br (ltI 200 (lenS s9)) (
        K (V.bool false) []) (
        br (ltI 70000 (lenS s13)) (
          K (V.bool false) []) (
          br (ltI 2000 (lenS s11)) (
            K (V.bool false) []) (
            br (ltI 20 (lenL xs12)) (
              K (V.bool false) []) (
              (∃ m16 : Nat, (((m16 : Nat) < 18446744073709551616)) ∧ (
              J (siC.mk n f xs (lenL xs) x6.1 n8 s9 b10 s11 xs12 s13 n14 b15 (lenL xs12)) (siX.mk 0) (siX.mk 0) m16)) ∧ (
              ∀ x16 : (siL J).X, ∀ m17 : Nat, (J (siC.mk n f xs (lenL xs) x6.1 n8 s9 b10 s11 xs12 s13 n14 b15 (lenL xs12)) (siX.mk 0) x16 m17) → (
              br (ltI x16.1 (lenL xs12)) (
                need (andB (leI 0 x16.1) (ltI x16.1 (lenL xs12))) (
                need (okRow xs12 x16.1.toNat 1) (
                ∃ s18 : List UInt8, ((sub (rowAt xs12 x16.1) 0 1 : Option (List V)) = some [V.str s18]) ∧ (
                br (ltI 2000 (lenS s18)) (
                  K (V.bool false) []) (
                  ((siC.mk n f xs (lenL xs) x6.1 n8 s9 b10 s11 xs12 s13 n14 b15 (lenL xs12) : (siL J).C) = siC.mk n f xs (lenL xs) x6.1 n8 s9 b10 s11 xs12 s13 n14 b15 (lenL xs12)) ∧ (
                  ∃ m'19 : Nat, (((m'19 : Nat) < m17)) ∧ (
                  J (siC.mk n f xs (lenL xs) x6.1 n8 s9 b10 s11 xs12 s13 n14 b15 (lenL xs12)) (siX.mk 0) (siX.mk (addI IntKind.i64 x16.1 1)) m'19))))))) (
                ((smC.mk n f xs (lenL xs) : (smL I).C) = smC.mk n f xs (lenL xs)) ∧ (
                ∃ m'18 : Nat, (((m'18 : Nat) < m7)) ∧ (
                I (smC.mk n f xs (lenL xs)) (smX.mk 0) (smX.mk (addI IntKind.i64 x6.1 1)) m'18))))))))))))) (
      K (V.bool true) []))))) := by kernel_rfl

theorem sl_vc (r : Bool) (t : List UInt8) (xs : List (List V)) (r2 : Bool) (t2 : List UInt8) (ys : List (List V)) (I : slC → slX → slX → Nat → Prop) (K : V → List Bk → Prop) : vcF Tryz.prog cfgN (ctOf []) (lpOf [(4, slL I)]) 62 [.agg [.bool r, .str t, .lst xs], .agg [.bool r2, .str t2, .lst ys]] [] K = (
  br (notB (eqB r r2)) (
    K (V.bool false) []) (
    br (notB (eqS t t2)) (
      K (V.bool false) []) (
      br (notB (eqI (lenL xs) (lenL ys))) (
        K (V.bool false) []) (
        (∃ m8 : Nat, (((m8 : Nat) < 18446744073709551616)) ∧ (
        I (slC.mk r t xs r2 t2 ys (lenL xs)) (slX.mk 0) (slX.mk 0) m8)) ∧ (
        ∀ x8 : (slL I).X, ∀ m9 : Nat, (I (slC.mk r t xs r2 t2 ys (lenL xs)) (slX.mk 0) x8 m9) → (
        br (ltI x8.1 (lenL xs)) (
          need (andB (leI 0 x8.1) (ltI x8.1 (lenL xs))) (
          need (okRow xs x8.1.toNat 1) (
          ∃ s10 : List UInt8, ((sub (rowAt xs x8.1) 0 1 : Option (List V)) = some [V.str s10]) ∧ (
          need (andB (leI 0 x8.1) (ltI x8.1 (lenL ys))) (
          need (okRow ys x8.1.toNat 1) (
          ∃ s11 : List UInt8, ((sub (rowAt ys x8.1) 0 1 : Option (List V)) = some [V.str s11]) ∧ (
          br (notB (eqS s10 s11)) (
            K (V.bool false) []) (
            ((slC.mk r t xs r2 t2 ys (lenL xs) : (slL I).C) = slC.mk r t xs r2 t2 ys (lenL xs)) ∧ (
            ∃ m'12 : Nat, (((m'12 : Nat) < m9)) ∧ (
            I (slC.mk r t xs r2 t2 ys (lenL xs)) (slX.mk 0) (slX.mk (addI IntKind.i64 x8.1 1)) m'12)))))))))) (
          K (V.bool true) []))))))) := by kernel_rfl

theorem sw_vc (id : Int) (lb : List UInt8) (r : Bool) (t : List UInt8) (xs : List (List V)) (tx : List UInt8) (op : Int) (g : Bool) (id2 : Int) (lb2 : List UInt8) (r2 : Bool) (t2 : List UInt8) (ys : List (List V)) (tx2 : List UInt8) (op2 : Int) (g2 : Bool) (K : V → List Bk → Prop) : vcF Tryz.prog cfgN (ctOf [(62, sameLineCon)]) (lpOf []) 28 [.agg [.int .i64 id, .str lb, .bool r, .str t, .lst xs, .str tx, .int .i64 op, .bool g], .agg [.int .i64 id2, .str lb2, .bool r2, .str t2, .lst ys, .str tx2, .int .i64 op2, .bool g2]] [] K = (
  br (eqI id id2) (
    br (eqS lb lb2) (
      ∃ l17 : List (List UInt8), ((xs : List (List V)) = strV l17) ∧ (
      ((ys : List (List V)) = strV l17) ∧ (
      (((l17.length : Nat) ≤ 100000)) ∧ (
      ((r : Bool) = r2) ∧ (
      ((t : List UInt8) = t2) ∧ (
      br (eqS tx tx2) (
        br (eqI op op2) (
          K (V.bool (eqB g g2)) []) (
          K (V.bool false) [])) (
        K (V.bool false) []))))))) (
      K (V.bool false) [])) (
    K (V.bool false) [])) := by kernel_rfl

theorem ss_vc (n f : Int) (xs : List (List V)) (n2 f2 : Int) (ys : List (List V)) (I : ssC → ssX → ssX → Nat → Prop) (K : V → List Bk → Prop) : vcF Tryz.prog cfgN (ctOf [(28, sameWinCon)]) (lpOf [(4, ssL I)]) 10 [.agg [.int .i64 n, .int .i64 f, .lst xs], .agg [.int .i64 n2, .int .i64 f2, .lst ys]] [] K = (
  br (notB (eqI n n2)) (
    K (V.bool false) []) (
    br (notB (eqI f f2)) (
      K (V.bool false) []) (
      br (notB (eqI (lenL xs) (lenL ys))) (
        K (V.bool false) []) (
        (∃ m8 : Nat, (((m8 : Nat) < 18446744073709551616)) ∧ (
        I (ssC.mk n f xs n2 f2 ys (lenL xs)) (ssX.mk 0) (ssX.mk 0) m8)) ∧ (
        ∀ x8 : (ssL I).X, ∀ m9 : Nat, (I (ssC.mk n f xs n2 f2 ys (lenL xs)) (ssX.mk 0) x8 m9) → (
        br (ltI x8.1 (lenL xs)) (
          need (andB (leI 0 x8.1) (ltI x8.1 (lenL xs))) (
          need (okRow xs x8.1.toNat 8) (
          ∃ n10 : Int, ∃ s11 : List UInt8, ∃ b12 : Bool, ∃ s13 : List UInt8, ∃ xs14 : List (List V), ∃ s15 : List UInt8, ∃ n16 : Int, ∃ b17 : Bool, ((sub (rowAt xs x8.1) 0 8 : Option (List V)) = some [V.int IntKind.i64 n10, V.str s11, V.bool b12, V.str s13, V.lst xs14, V.str s15, V.int IntKind.i64 n16, V.bool b17]) ∧ (
          need (andB (leI 0 x8.1) (ltI x8.1 (lenL ys))) (
          need (okRow ys x8.1.toNat 8) (
          ∃ n18 : Int, ∃ s19 : List UInt8, ∃ b20 : Bool, ∃ s21 : List UInt8, ∃ xs22 : List (List V), ∃ s23 : List UInt8, ∃ n24 : Int, ∃ b25 : Bool, ((sub (rowAt ys x8.1) 0 8 : Option (List V)) = some [V.int IntKind.i64 n18, V.str s19, V.bool b20, V.str s21, V.lst xs22, V.str s23, V.int IntKind.i64 n24, V.bool b25]) ∧ (
          ∃ l26 : List (List UInt8), ((xs14 : List (List V)) = strV l26) ∧ (
          ((xs22 : List (List V)) = strV l26) ∧ (
          (((l26.length : Nat) ≤ 100000)) ∧ (
          ((n10 : Int) = n18) ∧ (
          ((s11 : List UInt8) = s19) ∧ (
          ((b12 : Bool) = b20) ∧ (
          ((s13 : List UInt8) = s21) ∧ (
          ((s15 : List UInt8) = s23) ∧ (
          ((n16 : Int) = n24) ∧ (
          ((b17 : Bool) = b25) ∧ (
          ((ssC.mk n f xs n2 f2 ys (lenL xs) : (ssL I).C) = ssC.mk n f xs n2 f2 ys (lenL xs)) ∧ (
          ∃ m'27 : Nat, (((m'27 : Nat) < m9)) ∧ (
          I (ssC.mk n f xs n2 f2 ys (lenL xs)) (ssX.mk 0) (ssX.mk (addI IntKind.i64 x8.1 1)) m'27))))))))))))))))))) (
          K (V.bool true) []))))))) := by kernel_rfl

def rr_vc_1 (n f : Int) (xs : List (List V)) (I : rrC → rrX → rrX → Nat → Prop) (K : V → List Bk → Prop) (x5 : (rrL I).X) (m6 : Nat) (n7 : Int) (b14 : Bool) : Prop :=
  (
                            br (x5.2) (
                              ((rrC.mk n f xs (lenL xs) : (rrL I).C) = rrC.mk n f xs (lenL xs)) ∧ (
                              ∃ m'16 : Nat, (((m'16 : Nat) < m6)) ∧ (
                              I (rrC.mk n f xs (lenL xs)) (rrX.mk 0 (eqI f 0) 0) (rrX.mk n7 true (addI IntKind.i64 x5.3 1)) m'16))) (
                              br (eqI n7 f) (
                                ((rrC.mk n f xs (lenL xs) : (rrL I).C) = rrC.mk n f xs (lenL xs)) ∧ (
                                ∃ m'16 : Nat, (((m'16 : Nat) < m6)) ∧ (
                                I (rrC.mk n f xs (lenL xs)) (rrX.mk 0 (eqI f 0) 0) (rrX.mk n7 (notB b14) (addI IntKind.i64 x5.3 1)) m'16))) (
                                ((rrC.mk n f xs (lenL xs) : (rrL I).C) = rrC.mk n f xs (lenL xs)) ∧ (
                                ∃ m'16 : Nat, (((m'16 : Nat) < m6)) ∧ (
                                I (rrC.mk n f xs (lenL xs)) (rrX.mk 0 (eqI f 0) 0) (rrX.mk n7 false (addI IntKind.i64 x5.3 1)) m'16)))))
theorem rr_vc (n f : Int) (xs : List (List V)) (I : rrC → rrX → rrX → Nat → Prop) (K : V → List Bk → Prop) : vcF Tryz.prog cfgN (ctOf [(12, rgCon)]) (lpOf [(5, rrL I)]) 6 [.agg [.int .i64 n, .int .i64 f, .lst xs]] [] K = (
  br (ltI n 1) (
    K (V.bool false) []) (
    br (ltI 1048576 n) (
      K (V.bool false) []) (
      br (ltI 16 (lenL xs)) (
        K (V.bool false) []) (
        (∃ m5 : Nat, (((m5 : Nat) < 18446744073709551616)) ∧ (
        I (rrC.mk n f xs (lenL xs)) (rrX.mk 0 (eqI f 0) 0) (rrX.mk 0 (eqI f 0) 0) m5)) ∧ (
        ∀ x5 : (rrL I).X, ∀ m6 : Nat, (I (rrC.mk n f xs (lenL xs)) (rrX.mk 0 (eqI f 0) 0) x5 m6) → (
        br (ltI x5.3 (lenL xs)) (
          need (andB (leI 0 x5.3) (ltI x5.3 (lenL xs))) (
          need (okRow xs x5.3.toNat 8) (
          ∃ n7 : Int, ∃ s8 : List UInt8, ∃ b9 : Bool, ∃ s10 : List UInt8, ∃ xs11 : List (List V), ∃ s12 : List UInt8, ∃ n13 : Int, ∃ b14 : Bool, ((sub (rowAt xs x5.3) 0 8 : Option (List V)) = some [V.int IntKind.i64 n7, V.str s8, V.bool b9, V.str s10, V.lst xs11, V.str s12, V.int IntKind.i64 n13, V.bool b14]) ∧ (
          br (leI n7 x5.1) (
            K (V.bool false) []) (
            br (leI n n7) (
              K (V.bool false) []) (
              br (ltI 64 (lenS s8)) (
                K (V.bool false) []) (
                ∃ l15 : List (List UInt8), ((xs11 : List (List V)) = strV l15) ∧ (
                (((l15.length : Nat) ≤ 100000)) ∧ (
                (((s10.length : Nat) ≤ 100000)) ∧ (
                br (notB (rightL (Line.mk b9 s10 l15))) (
                  K (V.bool false) []) (
                  br (ltI 65536 (lenS s12)) (
                    K (V.bool false) []) (
                    br (ltI n13 0) (
                      K (V.bool false) []) (
                      br (ltI 9007199254740991 n13) (
                        K (V.bool false) []) (
                        br (b14) (
                          br (eqI n13 0) (
                            K (V.bool false) []) (rr_vc_1 n f xs I K x5 m6 n7 b14)) (rr_vc_1 n f xs I K x5 m6 n7 b14))))))))))))))) (
          K (V.bool x5.2) []))))))) := by kernel_rfl

theorem ra_vc (n f : Int) (xs : List (List V)) (id : Int) (I : raC → raX → raX → Nat → Prop) (K : V → List Bk → Prop) : vcF Tryz.prog cfgN (ctOf []) (lpOf [(2, raL I)]) 47 [.agg [.int .i64 n, .int .i64 f, .lst xs], .int .i64 id] [] K = (
  (∃ m6 : Nat, (((m6 : Nat) < 18446744073709551616)) ∧ (
  I (raC.mk id n f xs (lenL xs)) (raX.mk 0) (raX.mk 0) m6)) ∧ (
  ∀ x6 : (raL I).X, ∀ m7 : Nat, (I (raC.mk id n f xs (lenL xs)) (raX.mk 0) x6 m7) → (
  br (ltI x6.1 (lenL xs)) (
    need (andB (leI 0 x6.1) (ltI x6.1 (lenL xs))) (
    need (okRow xs x6.1.toNat 8) (
    ∃ n8 : Int, ((sub (rowAt xs x6.1) 0 1 : Option (List V)) = some [V.int IntKind.i64 n8]) ∧ (
    br (eqI n8 id) (
      K (V.int IntKind.i64 x6.1) []) (
      ((raC.mk id n f xs (lenL xs) : (raL I).C) = raC.mk id n f xs (lenL xs)) ∧ (
      ∃ m'9 : Nat, (((m'9 : Nat) < m7)) ∧ (
      I (raC.mk id n f xs (lenL xs)) (raX.mk 0) (raX.mk (addI IntKind.i64 x6.1 1)) m'9))))))) (
    K (V.int IntKind.i64 (-1)) [])))) := by kernel_rfl

theorem rs_vc (n f : Int) (xs : List (List V)) (id : Int) (K : V → List Bk → Prop) : vcF Tryz.prog cfgN (ctOf [(47, idxCon)]) (lpOf []) 46 [.agg [.int .i64 n, .int .i64 f, .lst xs], .int .i64 id] [] K = (
  ∃ l5 : List Window, ((xs : List (List V)) = windowV l5) ∧ (
  (((l5.length : Nat) ≤ 100000)) ∧ (
  br (leI 0 (idxW l5 id)) (
    need (andB (leI 0 (idxW l5 id)) (ltI (idxW l5 id) (lenL xs))) (
    need (okRow xs (idxW l5 id).toNat 8) (
    ∃ b6 : Bool, ((sub (rowAt xs (idxW l5 id)) 7 1 : Option (List V)) = some [V.bool b6]) ∧ (
    K (V.bool (notB b6)) [])))) (
    K (V.bool false) [])))) := by kernel_rfl

theorem rx_vc (n f : Int) (xs : List (List V)) (id : Int) (K : V → List Bk → Prop) : vcF Tryz.prog cfgN (ctOf [(47, idxCon), (46, seenCon)]) (lpOf []) 51 [.agg [.int .i64 n, .int .i64 f, .lst xs], .int .i64 id] [] K = (
  br (eqI id 1) (
    K (V.bool true) []) (
    br (eqI id 2) (
      K (V.bool true) []) (
      br (ltI id 16) (
        K (V.bool false) []) (
        br (ltI 5 (id.tmod 16)) (
          K (V.bool false) []) (
          br (eqI (id.tmod 16) 0) (
            ∃ l5 : List Window, ((xs : List (List V)) = windowV l5) ∧ (
            (((l5.length : Nat) ≤ 100000)) ∧ (
            K (V.bool (seenW l5 (quoI IntKind.i64 id 16))) []))) (
            ∃ l5 : List Window, ((xs : List (List V)) = windowV l5) ∧ (
            (((l5.length : Nat) ≤ 100000)) ∧ (
            K (V.bool (leI 0 (idxW l5 (quoI IntKind.i64 id 16)))) [])))))))) := by kernel_rfl

theorem rd2_vc (id : Int) (K : V → List Bk → Prop) : vcF Tryz.prog cfgN (ctOf []) (lpOf []) 54 [.int .i64 id] [] K = (
  br (eqI id 1) (
    K (V.bool true) []) (
    br (leI 16 id) (
      K (V.bool (eqI (id.tmod 16) 0)) []) (
      K (V.bool false) []))) := by kernel_rfl

theorem rm_vc (id : Int) (K : V → List Bk → Prop) : vcF Tryz.prog cfgN (ctOf [(54, dirCon)]) (lpOf []) 53 [.int .i64 id] [] K = (
  br (dirB id) (
    K (V.int IntKind.i64 2147484013) []) (
    br (eqI id 2) (
      K (V.int IntKind.i64 438) []) (
      br (eqI (id.tmod 16) 1) (
        K (V.int IntKind.i64 438) []) (
        br (eqI (id.tmod 16) 3) (
          K (V.int IntKind.i64 438) []) (
          br (eqI (id.tmod 16) 4) (
            K (V.int IntKind.i64 292) []) (
            K (V.int IntKind.i64 146) [])))))) := by kernel_rfl

theorem did_vc (n f : Int) (xs : List (List V)) (k a m o c : Int) (t : List UInt8) (K : V → List Bk → Prop) : vcF Tryz.prog cfgN (ctOf [(13, makeCon), (20, focusCon), (15, wtypeCon), (16, openCon), (14, wreadCon), (17, writeCon), (19, closeCon)]) (lpOf []) 8 [.agg [.int .i64 n, .int .i64 f, .lst xs], .agg [.int .i64 k, .int .i64 a, .int .i64 m, .int .i64 o, .int .i64 c, .str t]] [] K = (
  br (eqI k 1) (
    ∃ l10 : List Window, ((xs : List (List V)) = windowV l10) ∧ (
    (smallL l10) ∧ (
    ((((n : Int) ≤ 9223372036854775807)) ∧ (
    ((-9223372036854775808 : Int) ≤ n))) ∧ (
    K (V.tup [V.agg [V.int IntKind.i64 (makeF (Windows.mk n f l10) t).fst.1, V.int IntKind.i64 (makeF (Windows.mk n f l10) t).fst.2, V.lst (windowV (makeF (Windows.mk n f l10) t).fst.3)], V.agg [V.int IntKind.i64 (makeF (Windows.mk n f l10) t).snd.1, V.str [], V.bool false, V.int IntKind.i64 (makeF (Windows.mk n f l10) t).snd.2]]) [])))) (
    br (eqI k 2) (
      ∃ l10 : List Window, ((xs : List (List V)) = windowV l10) ∧ (
      (smallL l10) ∧ (
      K (V.tup [V.agg [V.int IntKind.i64 (focusF (Windows.mk n f l10) a).fst.1, V.int IntKind.i64 (focusF (Windows.mk n f l10) a).fst.2, V.lst (windowV (focusF (Windows.mk n f l10) a).fst.3)], V.agg [V.int IntKind.i64 0, V.str [], V.bool false, V.int IntKind.i64 (focusF (Windows.mk n f l10) a).2]]) []))) (
      br (eqI k 3) (
        ∃ l10 : List Window, ((xs : List (List V)) = windowV l10) ∧ (
        ((rightW (Windows.mk n f l10) : Bool) = true) ∧ (
        (((t.length : Nat) ≤ 100000)) ∧ (
        K (V.tup [V.agg [V.int IntKind.i64 (typeW (Windows.mk n f l10) t).1, V.int IntKind.i64 (typeW (Windows.mk n f l10) t).2, V.lst (windowV (typeW (Windows.mk n f l10) t).3)], V.agg [V.int IntKind.i64 0, V.str [], V.bool false, V.int IntKind.i64 0]]) [])))) (
        br (eqI k 4) (
          ∃ l10 : List Window, ((xs : List (List V)) = windowV l10) ∧ (
          ((rightW (Windows.mk n f l10) : Bool) = true) ∧ (
          (((a : Int) ≤ 9223372036854775807)) ∧ (
          (((m : Int) ≤ 9223372036854775807)) ∧ (
          (((-9223372036854775808 : Int) ≤ m)) ∧ (
          K (V.tup [V.agg [V.int IntKind.i64 (openF (Windows.mk n f l10) a m).fst.1, V.int IntKind.i64 (openF (Windows.mk n f l10) a m).fst.2, V.lst (windowV (openF (Windows.mk n f l10) a m).fst.3)], V.agg [V.int IntKind.i64 0, V.str [], V.bool false, V.int IntKind.i64 (openF (Windows.mk n f l10) a m).2]]) [])))))) (
          br (eqI k 5) (
            ∃ l10 : List Window, ((xs : List (List V)) = windowV l10) ∧ (
            ((rightW (Windows.mk n f l10) : Bool) = true) ∧ (
            (((a : Int) ≤ 9223372036854775807)) ∧ (
            K (V.tup [V.agg [V.int IntKind.i64 (readW (Windows.mk n f l10) a o c).fst.1, V.int IntKind.i64 (readW (Windows.mk n f l10) a o c).fst.2, V.lst (windowV (readW (Windows.mk n f l10) a o c).fst.3)], V.agg [V.int IntKind.i64 0, V.str (readW (Windows.mk n f l10) a o c).snd.1, V.bool (readW (Windows.mk n f l10) a o c).snd.snd.1, V.int IntKind.i64 (readW (Windows.mk n f l10) a o c).snd.snd.2]]) [])))) (
            br (eqI k 6) (
              ∃ l10 : List Window, ((xs : List (List V)) = windowV l10) ∧ (
              ((rightW (Windows.mk n f l10) : Bool) = true) ∧ (
              (((a : Int) ≤ 9223372036854775807)) ∧ (
              (((t.length : Nat) ≤ 1000000)) ∧ (
              K (V.tup [V.agg [V.int IntKind.i64 (writeW (Windows.mk n f l10) a t).fst.1, V.int IntKind.i64 (writeW (Windows.mk n f l10) a t).fst.2, V.lst (windowV (writeW (Windows.mk n f l10) a t).fst.3)], V.agg [V.int IntKind.i64 (writeW (Windows.mk n f l10) a t).snd.1, V.str [], V.bool false, V.int IntKind.i64 (writeW (Windows.mk n f l10) a t).snd.2]]) []))))) (
              br (eqI k 7) (
                ∃ l10 : List Window, ((xs : List (List V)) = windowV l10) ∧ (
                ((rightW (Windows.mk n f l10) : Bool) = true) ∧ (
                (((a : Int) ≤ 9223372036854775807)) ∧ (
                K (V.tup [V.agg [V.int IntKind.i64 (closeW (Windows.mk n f l10) a).1, V.int IntKind.i64 (closeW (Windows.mk n f l10) a).2, V.lst (windowV (closeW (Windows.mk n f l10) a).3)], V.agg [V.int IntKind.i64 0, V.str [], V.bool false, V.int IntKind.i64 0]]) [])))) (
                K (V.tup [V.agg [V.int IntKind.i64 n, V.int IntKind.i64 f, V.lst xs], V.agg [V.int IntKind.i64 0, V.str [], V.bool false, V.int IntKind.i64 0]]) [])))))))) := by kernel_rfl

end Go.Proofs.YtdbbpibfejchfaaGreatDoor
namespace Go.Proofs.YtdbbpibfejchfaaGreatDoor
open Go.RowKit
set_option maxRecDepth 100000
set_option linter.unusedVariables false
set_option linter.unusedSimpArgs false
def Says (f : Nat) (vs : List V) : Prop := ∃ r out, evalF Tryz.prog cfgN 20 f vs [] = some (r, out) ∧ r = .bool true ∧ out = []
theorem ok_con {n : Nat} (hn : 14 ≤ n) : ConOk (evalF Tryz.prog cfgN n) 7 okCon := by
  intro vs bs K h
  unfold okCon at h
  split at h
  · exact ⟨_, _, awake_ev hn, h⟩
  · exact h.elim
theorem sm_con {n : Nat} (hn : 1 ≤ n) : ConOk (evalF Tryz.prog cfgN n) 5 smCon := by
  intro vs bs K h
  unfold smCon at h
  split at h
  · rename_i nx f0 xs
    obtain ⟨l, rfl, hK⟩ := h
    refine run_of (lp := lpOf [(4, smL fun _ _ x m => ∃ k : Nat, x = ⟨(k : Int)⟩ ∧ k + m = l.length ∧ ∀ x ∈ l.take k, x.label.length ≤ 200 ∧ x.text.length ≤ 70000 ∧ x.line.text.length ≤ 2000 ∧ x.line.ready.length ≤ 20), (10, siL fun c _ x m => 0 ≤ x.k ∧ x.k + m = c.cnt2)]) hn (fun k _ => noCt_ok _) ?_
    rw [sm_vc]
    have no : K (.bool false) [] := hK false (fun h => by cases h)
    simp only [windowV_lenL]
    rw [br_iff]; refine ⟨fun _ => no, fun g0 => ?_⟩
    have g0 : l.length ≤ 20 := by simp only [br_iff, need_iff, andB_t, andB_f, orB_t, orB_f, notB_t, notB_f, leI_t, leI_f, ltI_t, ltI_f, eqI_t, eqI_f, leN_t, leN_f, eqN_t, eqN_f, eqS_t, eqS_f, eqB_t, eqB_f, catOk_t, leC_t] at g0; omega
    refine ⟨⟨l.length, by omega, 0, rfl, by omega, fun x hx => by simp at hx⟩, ?_⟩
    rintro _ m ⟨k, rfl, hk, hp⟩
    dsimp only
    rw [br_iff]
    refine ⟨fun hlt => ?_, fun hge => hK true fun _ => ?_⟩
    · have hlt : k < l.length := by simp only [br_iff, need_iff, andB_t, andB_f, orB_t, orB_f, notB_t, notB_f, leI_t, leI_f, ltI_t, ltI_f, eqI_t, eqI_f, leN_t, leN_f, eqN_t, eqN_f, eqS_t, eqS_f, eqB_t, eqB_f, catOk_t, leC_t] at hlt; omega
      have gf : l[k]? = some l[k] := List.getElem?_eq_getElem hlt
      generalize l[k] = f at gf
      have rf := windowV_row gf
      have kf : okRow (windowV l) (Int.toNat (k : Int)) 8 = true := by simpa using windowV_ok (l := l) (i := k) hlt
      have nf : andB (leI 0 (k : Int)) (ltI (k : Int) (l.length : Int)) = true := by simp only [br_iff, need_iff, andB_t, andB_f, orB_t, orB_f, notB_t, notB_f, leI_t, leI_f, ltI_t, ltI_f, eqI_t, eqI_f, leN_t, leN_f, eqN_t, eqN_f, eqS_t, eqS_f, eqB_t, eqB_f, catOk_t, leC_t]; omega
      rw [need_iff, need_iff]
      refine ⟨nf, kf, ?_⟩
      try rw [rf]
      repeat apply Exists.intro
      refine ⟨rfl, ?_⟩
      rw [br_iff]; refine ⟨fun _ => no, fun g1 => ?_⟩
      rw [br_iff]; refine ⟨fun _ => no, fun g2 => ?_⟩
      rw [br_iff]; refine ⟨fun _ => no, fun g3 => ?_⟩
      rw [br_iff]; refine ⟨fun _ => no, fun g4 => ?_⟩
      rw [strV_lenL] at g4 ⊢
      simp only [br_iff, need_iff, andB_t, andB_f, orB_t, orB_f, notB_t, notB_f, leI_t, leI_f, ltI_t, ltI_f, eqI_t, eqI_f, leN_t, leN_f, eqN_t, eqN_f, eqS_t, eqS_f, eqB_t, eqB_f, catOk_t, leC_t, lenS] at g1 g2 g3 g4
      refine ⟨⟨f.line.ready.length, by omega, by simp, by simp⟩, ?_⟩
      rintro ⟨j⟩ m2 ⟨hj, hj2⟩
      dsimp only at hj hj2 ⊢
      obtain ⟨j, rfl⟩ := Int.eq_ofNat_of_zero_le hj
      rw [br_iff]; refine ⟨fun q => ?_, fun q => ?_⟩
      · have q : j < f.line.ready.length := by simp only [br_iff, need_iff, andB_t, andB_f, orB_t, orB_f, notB_t, notB_f, leI_t, leI_f, ltI_t, ltI_f, eqI_t, eqI_f, leN_t, leN_f, eqN_t, eqN_f, eqS_t, eqS_f, eqB_t, eqB_f, catOk_t, leC_t] at q; omega
        have ge : f.line.ready[j]? = some f.line.ready[j] := List.getElem?_eq_getElem q
        generalize f.line.ready[j] = e at ge
        have re := strV_row ge
        have ke : okRow (strV f.line.ready) (Int.toNat (j : Int)) 1 = true := by simpa using strV_ok (l := f.line.ready) (i := j) q
        have ne : andB (leI 0 (j : Int)) (ltI (j : Int) (f.line.ready.length : Int)) = true := by simp only [br_iff, need_iff, andB_t, andB_f, orB_t, orB_f, notB_t, notB_f, leI_t, leI_f, ltI_t, ltI_f, eqI_t, eqI_f, leN_t, leN_f, eqN_t, eqN_f, eqS_t, eqS_f, eqB_t, eqB_f, catOk_t, leC_t]; omega
        rw [need_iff]; refine ⟨by simp only [br_iff, need_iff, andB_t, andB_f, orB_t, orB_f, notB_t, notB_f, leI_t, leI_f, ltI_t, ltI_f, eqI_t, eqI_f, leN_t, leN_f, eqN_t, eqN_f, eqS_t, eqS_f, eqB_t, eqB_f, catOk_t, leC_t]; omega, ?_⟩
        rw [need_iff]; refine ⟨ke, ?_⟩
        rw [re]
        refine ⟨e, rfl, ?_⟩
        rw [br_iff]
        exact ⟨fun _ => no, fun _ => ⟨by trivial, m2 - 1, by omega, by rw [addI_i64 (by omega) (by omega)]; omega, by rw [addI_i64 (by omega) (by omega)]; omega⟩⟩
      · refine ⟨by trivial, m - 1, by omega, k + 1, by rw [addI_i64 (by omega) (by omega)]; rfl, by omega, fun x hx => ?_⟩
        obtain ⟨hk2, rfl⟩ := List.getElem?_eq_some_iff.1 gf
        rw [List.take_succ_eq_append_getElem hk2] at hx
        rcases List.mem_append.1 hx with hx | hx
        · exact hp x hx
        · simp at hx; subst hx; omega
    · have : k = l.length := by simp only [br_iff, need_iff, andB_t, andB_f, orB_t, orB_f, notB_t, notB_f, leI_t, leI_f, ltI_t, ltI_f, eqI_t, eqI_f, leN_t, leN_f, eqN_t, eqN_f, eqS_t, eqS_f, eqB_t, eqB_f, catOk_t, leC_t] at hge; omega
      subst this
      rw [List.take_length] at hp
      exact ⟨g0, hp⟩
  · exact h.elim
theorem sl_con {n : Nat} (hn : 1 ≤ n) : ConOk (evalF Tryz.prog cfgN n) 62 sameLineCon := by
  intro vs bs K h
  unfold sameLineCon at h
  split at h
  · rename_i r t xs r2 t2 ys
    obtain ⟨l, rfl, rfl, hb, rfl, rfl, hK⟩ := h
    refine run_of (lp := lpOf [(4, slL fun _ _ x m => ∃ k : Nat, x = ⟨(k : Int)⟩ ∧ k + m = l.length)]) (by omega) (fun k hk => noCt_ok _) ?_
    rw [sl_vc]
    simp only [strV_lenL]
    rw [br_iff]; refine ⟨fun g => by simp only [br_iff, need_iff, andB_t, andB_f, orB_t, orB_f, notB_t, notB_f, leI_t, leI_f, ltI_t, ltI_f, eqI_t, eqI_f, leN_t, leN_f, eqN_t, eqN_f, eqS_t, eqS_f, eqB_t, eqB_f, catOk_t, leC_t] at g; exact absurd rfl g, fun _ => ?_⟩
    rw [br_iff]; refine ⟨fun g => by simp only [br_iff, need_iff, andB_t, andB_f, orB_t, orB_f, notB_t, notB_f, leI_t, leI_f, ltI_t, ltI_f, eqI_t, eqI_f, leN_t, leN_f, eqN_t, eqN_f, eqS_t, eqS_f, eqB_t, eqB_f, catOk_t, leC_t] at g; exact absurd rfl g, fun _ => ?_⟩
    rw [br_iff]; refine ⟨fun g => by simp only [br_iff, need_iff, andB_t, andB_f, orB_t, orB_f, notB_t, notB_f, leI_t, leI_f, ltI_t, ltI_f, eqI_t, eqI_f, leN_t, leN_f, eqN_t, eqN_f, eqS_t, eqS_f, eqB_t, eqB_f, catOk_t, leC_t] at g; exact absurd rfl g, fun _ => ⟨⟨l.length, by omega, 0, rfl, by omega⟩, ?_⟩⟩
    rintro _ m ⟨k, rfl, hk⟩
    dsimp only
    rw [br_iff]
    refine ⟨fun hlt => ?_, fun hge => hK⟩
    have hlt : k < l.length := by simp only [br_iff, need_iff, andB_t, andB_f, orB_t, orB_f, notB_t, notB_f, leI_t, leI_f, ltI_t, ltI_f, eqI_t, eqI_f, leN_t, leN_f, eqN_t, eqN_f, eqS_t, eqS_f, eqB_t, eqB_f, catOk_t, leC_t] at hlt; omega
    have gf : l[k]? = some l[k] := List.getElem?_eq_getElem hlt
    generalize l[k] = f at gf
    have rf := strV_row gf
    have kf : okRow (strV l) (Int.toNat (k : Int)) 1 = true := by simpa using strV_ok (l := l) (i := k) hlt
    have nf : andB (leI 0 (k : Int)) (ltI (k : Int) (l.length : Int)) = true := by simp only [br_iff, need_iff, andB_t, andB_f, orB_t, orB_f, notB_t, notB_f, leI_t, leI_f, ltI_t, ltI_f, eqI_t, eqI_f, leN_t, leN_f, eqN_t, eqN_f, eqS_t, eqS_f, eqB_t, eqB_f, catOk_t, leC_t]; omega
    rw [need_iff, need_iff]
    refine ⟨nf, kf, ?_⟩
    try rw [rf]
    repeat apply Exists.intro
    refine ⟨rfl, ?_⟩
    rw [need_iff, need_iff]
    refine ⟨nf, kf, ?_⟩
    try rw [rf]
    repeat apply Exists.intro
    refine ⟨rfl, ?_⟩
    rw [br_iff]
    exact ⟨fun g => by simp only [br_iff, need_iff, andB_t, andB_f, orB_t, orB_f, notB_t, notB_f, leI_t, leI_f, ltI_t, ltI_f, eqI_t, eqI_f, leN_t, leN_f, eqN_t, eqN_f, eqS_t, eqS_f, eqB_t, eqB_f, catOk_t, leC_t] at g; exact absurd rfl g, fun _ => ⟨by trivial, m - 1, by omega, k + 1, by rw [addI_i64 (by omega) (by omega)]; rfl, by omega⟩⟩
  · exact h.elim
theorem sw_con {n : Nat} (hn : 2 ≤ n) : ConOk (evalF Tryz.prog cfgN n) 28 sameWinCon := by
  intro vs bs K h
  unfold sameWinCon at h
  split at h
  · obtain ⟨l, rfl, rfl, hb, rfl, rfl, rfl, rfl, rfl, rfl, rfl, hK⟩ := h
    refine run_of (lp := lpOf []) (by omega) (ct := ctOf [(62, sameLineCon)]) (fun k hk => ctOf_ok (ctOf_cons (sl_con (by omega)) (ctOf_nil _))) ?_
    rw [sw_vc]
    have ei : ∀ a : Int, eqI a a = true := fun a => by simp [eqI]
    have es : ∀ a : List UInt8, eqS a a = true := fun a => by simp [eqS, strEq]
    have eb : ∀ a : Bool, eqB a a = true := fun a => by simp [eqB]
    simp only [ei, es, eb, br_tt]
    exact ⟨l, rfl, rfl, hb, trivial, trivial, hK⟩
  · exact h.elim
theorem ss_con {n : Nat} (hn : 3 ≤ n) : ConOk (evalF Tryz.prog cfgN n) 10 sameCon := by
  intro vs bs K h
  unfold sameCon at h
  split at h
  · obtain ⟨l, rfl, rfl, hb, rfl, rfl, hK⟩ := h
    have hlen := hb.1
    refine run_of (lp := lpOf [(4, ssL fun _ _ x m => ∃ k : Nat, x = ⟨(k : Int)⟩ ∧ k + m = l.length)]) (by omega) (ct := ctOf [(28, sameWinCon)]) (fun k hk => ctOf_ok (ctOf_cons (sw_con (by omega)) (ctOf_nil _))) ?_
    rw [ss_vc]
    simp only [windowV_lenL]
    rw [br_iff]; refine ⟨fun g => by simp only [br_iff, need_iff, andB_t, andB_f, orB_t, orB_f, notB_t, notB_f, leI_t, leI_f, ltI_t, ltI_f, eqI_t, eqI_f, leN_t, leN_f, eqN_t, eqN_f, eqS_t, eqS_f, eqB_t, eqB_f, catOk_t, leC_t] at g; exact absurd rfl g, fun _ => ?_⟩
    rw [br_iff]; refine ⟨fun g => by simp only [br_iff, need_iff, andB_t, andB_f, orB_t, orB_f, notB_t, notB_f, leI_t, leI_f, ltI_t, ltI_f, eqI_t, eqI_f, leN_t, leN_f, eqN_t, eqN_f, eqS_t, eqS_f, eqB_t, eqB_f, catOk_t, leC_t] at g; exact absurd rfl g, fun _ => ?_⟩
    rw [br_iff]; refine ⟨fun g => by simp only [br_iff, need_iff, andB_t, andB_f, orB_t, orB_f, notB_t, notB_f, leI_t, leI_f, ltI_t, ltI_f, eqI_t, eqI_f, leN_t, leN_f, eqN_t, eqN_f, eqS_t, eqS_f, eqB_t, eqB_f, catOk_t, leC_t] at g; exact absurd rfl g, fun _ => ⟨⟨l.length, by omega, 0, rfl, by omega⟩, ?_⟩⟩
    rintro _ m ⟨k, rfl, hk⟩
    dsimp only
    rw [br_iff]
    refine ⟨fun hlt => ?_, fun hge => hK⟩
    have hlt : k < l.length := by simp only [br_iff, need_iff, andB_t, andB_f, orB_t, orB_f, notB_t, notB_f, leI_t, leI_f, ltI_t, ltI_f, eqI_t, eqI_f, leN_t, leN_f, eqN_t, eqN_f, eqS_t, eqS_f, eqB_t, eqB_f, catOk_t, leC_t] at hlt; omega
    have gf : l[k]? = some l[k] := List.getElem?_eq_getElem hlt
    generalize l[k] = f at gf
    have rf := windowV_row gf
    have kf : okRow (windowV l) (Int.toNat (k : Int)) 8 = true := by simpa using windowV_ok (l := l) (i := k) hlt
    have nf : andB (leI 0 (k : Int)) (ltI (k : Int) (l.length : Int)) = true := by simp only [br_iff, need_iff, andB_t, andB_f, orB_t, orB_f, notB_t, notB_f, leI_t, leI_f, ltI_t, ltI_f, eqI_t, eqI_f, leN_t, leN_f, eqN_t, eqN_f, eqS_t, eqS_f, eqB_t, eqB_f, catOk_t, leC_t]; omega
    have hm := hb.2 f (List.mem_of_getElem? gf)
    rw [need_iff, need_iff]
    refine ⟨nf, kf, ?_⟩
    try rw [rf]
    repeat apply Exists.intro
    refine ⟨rfl, ?_⟩
    rw [need_iff, need_iff]
    refine ⟨nf, kf, ?_⟩
    try rw [rf]
    repeat apply Exists.intro
    refine ⟨rfl, ?_⟩
    exact ⟨f.line.ready, rfl, rfl, hm.1, rfl, rfl, rfl, rfl, rfl, rfl, rfl, by trivial, m - 1, by omega, k + 1, by rw [addI_i64 (by omega) (by omega)]; rfl, by omega⟩
  · exact h.elim
def foB (l : List Window) (f : Int) (k : Nat) : Bool := decide (f = 0) || (l.take k).any fun x => decide (x.id = f) && !x.gone
theorem foB_step {l : List Window} {f : Int} {k : Nat} {x : Window} (h : l[k]? = some x) : foB l f (k + 1) = (foB l f k || (decide (x.id = f) && !x.gone)) := by
  obtain ⟨hk, rfl⟩ := List.getElem?_eq_some_iff.1 h
  unfold foB
  rw [List.take_succ_eq_append_getElem hk, List.any_append, List.any_cons, List.any_nil, Bool.or_false, Bool.or_assoc]
theorem any_seen {l : List Window} (h : l.Pairwise (fun a b => a.id < b.id)) (f : Int) : (l.any fun x => decide (x.id = f) && !x.gone) = seenW l f := by
  rw [Bool.eq_iff_iff, List.any_eq_true]
  constructor
  · rintro ⟨x, hx, hp⟩
    simp only [Bool.and_eq_true, decide_eq_true_eq, Bool.not_eq_true'] at hp
    obtain ⟨i, hi⟩ := List.mem_iff_getElem?.1 hx
    rw [← hp.1, seenW_asc h hi, hp.2]; rfl
  · intro hs
    obtain ⟨i, x, h1, h2, h3, h4, h5⟩ := seenW_found hs
    exact ⟨x, List.mem_of_getElem? h2, by simp [h4, h5]⟩
theorem rr_con {n : Nat} (hn : 3 ≤ n) : ConOk (evalF Tryz.prog cfgN n) 6 rightCon := by
  intro vs bs K h
  unfold rightCon at h
  split at h
  · rename_i nx f0 xs
    obtain ⟨l, rfl, hb, hK⟩ := h
    have hlen := hb.1
    refine run_of (lp := lpOf [(5, rrL fun _ _ x m => ∃ k : Nat, x = ⟨prevId l k, foB l f0 k, (k : Int)⟩ ∧ k + m = l.length ∧ goodI nx l k)]) (by omega) (ct := ctOf [(12, rgCon)])
      (fun k hk => ctOf_ok (ctOf_cons (rrg_con (by omega)) (ctOf_nil _))) ?_
    rw [rr_vc]
    have no : rightW ⟨nx, f0, l⟩ = false → K (.bool false) [] := fun h => by rw [h] at hK; exact hK
    simp only [windowV_lenL]
    rw [br_iff]; refine ⟨fun q => no ?_, fun q1 => ?_⟩
    · simp only [br_iff, need_iff, andB_t, andB_f, orB_t, orB_f, notB_t, notB_f, leI_t, leI_f, ltI_t, ltI_f, eqI_t, eqI_f, leN_t, leN_f, eqN_t, eqN_f, eqS_t, eqS_f, eqB_t, eqB_f, catOk_t, leC_t] at q
      unfold rightW; rw [decide_eq_false (p := 1 ≤ nx) (by omega)]; simp
    rw [br_iff]; refine ⟨fun q => no ?_, fun q2 => ?_⟩
    · simp only [br_iff, need_iff, andB_t, andB_f, orB_t, orB_f, notB_t, notB_f, leI_t, leI_f, ltI_t, ltI_f, eqI_t, eqI_f, leN_t, leN_f, eqN_t, eqN_f, eqS_t, eqS_f, eqB_t, eqB_f, catOk_t, leC_t] at q
      unfold rightW; rw [decide_eq_false (p := nx ≤ 1048576) (by omega)]; simp
    rw [br_iff]; refine ⟨fun q => no ?_, fun q3 => ⟨⟨l.length, by omega, 0, ?_, by omega, rfl, Int.le_refl 0⟩, ?_⟩⟩
    · simp only [br_iff, need_iff, andB_t, andB_f, orB_t, orB_f, notB_t, notB_f, leI_t, leI_f, ltI_t, ltI_f, eqI_t, eqI_f, leN_t, leN_f, eqN_t, eqN_f, eqS_t, eqS_f, eqB_t, eqB_f, catOk_t, leC_t] at q
      unfold rightW; rw [decide_eq_false (p := l.length ≤ 16) (by omega)]; simp
    · unfold foB; simp; exact ⟨rfl, rfl⟩
    simp only [br_iff, need_iff, andB_t, andB_f, orB_t, orB_f, notB_t, notB_f, leI_t, leI_f, ltI_t, ltI_f, eqI_t, eqI_f, leN_t, leN_f, eqN_t, eqN_f, eqS_t, eqS_f, eqB_t, eqB_f, catOk_t, leC_t] at q1 q2 q3
    rintro _ m ⟨k, rfl, hk, hp⟩
    dsimp only
    rw [br_iff]
    refine ⟨fun hlt => ?_, fun hge => ?_⟩
    · have hlt : k < l.length := by simp only [br_iff, need_iff, andB_t, andB_f, orB_t, orB_f, notB_t, notB_f, leI_t, leI_f, ltI_t, ltI_f, eqI_t, eqI_f, leN_t, leN_f, eqN_t, eqN_f, eqS_t, eqS_f, eqB_t, eqB_f, catOk_t, leC_t] at hlt; omega
      have gf : l[k]? = some l[k] := List.getElem?_eq_getElem hlt
      generalize l[k] = f at gf
      have rf := windowV_row gf
      have kf : okRow (windowV l) (Int.toNat (k : Int)) 8 = true := by simpa using windowV_ok (l := l) (i := k) hlt
      have nf : andB (leI 0 (k : Int)) (ltI (k : Int) (l.length : Int)) = true := by simp only [br_iff, need_iff, andB_t, andB_f, orB_t, orB_f, notB_t, notB_f, leI_t, leI_f, ltI_t, ltI_f, eqI_t, eqI_f, leN_t, leN_f, eqN_t, eqN_f, eqS_t, eqS_f, eqB_t, eqB_f, catOk_t, leC_t]; omega
      have hm := hb.2 f (List.mem_of_getElem? gf)
      rw [need_iff, need_iff]
      refine ⟨nf, kf, ?_⟩
      try rw [rf]
      repeat apply Exists.intro
      refine ⟨rfl, ?_⟩
      have hp0 := hp.2
      have ns : soundW f = false → K (.bool false) [] := fun h => no (good_no hp gf (.inr (.inr h)))
      rw [br_iff]; refine ⟨fun q => no (good_no hp gf (.inl (by simpa only [br_iff, need_iff, andB_t, andB_f, orB_t, orB_f, notB_t, notB_f, leI_t, leI_f, ltI_t, ltI_f, eqI_t, eqI_f, leN_t, leN_f, eqN_t, eqN_f, eqS_t, eqS_f, eqB_t, eqB_f, catOk_t, leC_t] using q))), fun g1 => ?_⟩
      rw [br_iff]; refine ⟨fun q => no (good_no hp gf (.inr (.inl (by simpa only [br_iff, need_iff, andB_t, andB_f, orB_t, orB_f, notB_t, notB_f, leI_t, leI_f, ltI_t, ltI_f, eqI_t, eqI_f, leN_t, leN_f, eqN_t, eqN_f, eqS_t, eqS_f, eqB_t, eqB_f, catOk_t, leC_t] using q)))), fun g2 => ?_⟩
      simp only [br_iff, need_iff, andB_t, andB_f, orB_t, orB_f, notB_t, notB_f, leI_t, leI_f, ltI_t, ltI_f, eqI_t, eqI_f, leN_t, leN_f, eqN_t, eqN_f, eqS_t, eqS_f, eqB_t, eqB_f, catOk_t, leC_t] at g1 g2
      rw [br_iff]; refine ⟨fun q => ns (by simp only [br_iff, need_iff, andB_t, andB_f, orB_t, orB_f, notB_t, notB_f, leI_t, leI_f, ltI_t, ltI_f, eqI_t, eqI_f, leN_t, leN_f, eqN_t, eqN_f, eqS_t, eqS_f, eqB_t, eqB_f, catOk_t, leC_t, lenS] at q; unfold soundW; rw [decide_eq_false (by omega)]; simp), fun g3 => ⟨f.line.ready, rfl, hm.1, hm.2, ?_⟩⟩
      rw [show (⟨f.line.raw, f.line.text, f.line.ready⟩ : Line) = f.line from rfl]
      rw [br_iff]; refine ⟨fun q => ns (by simp only [notB, Bool.not_eq_true'] at q; unfold soundW; rw [q]; simp), fun g4 => ?_⟩
      rw [br_iff]; refine ⟨fun q => ns (by simp only [br_iff, need_iff, andB_t, andB_f, orB_t, orB_f, notB_t, notB_f, leI_t, leI_f, ltI_t, ltI_f, eqI_t, eqI_f, leN_t, leN_f, eqN_t, eqN_f, eqS_t, eqS_f, eqB_t, eqB_f, catOk_t, leC_t, lenS] at q; unfold soundW; rw [decide_eq_false (p := f.text.length ≤ 65536) (by omega)]; simp), fun g5 => ?_⟩
      rw [br_iff]; refine ⟨fun q => ns (by simp only [br_iff, need_iff, andB_t, andB_f, orB_t, orB_f, notB_t, notB_f, leI_t, leI_f, ltI_t, ltI_f, eqI_t, eqI_f, leN_t, leN_f, eqN_t, eqN_f, eqS_t, eqS_f, eqB_t, eqB_f, catOk_t, leC_t] at q; unfold soundW; rw [decide_eq_false (p := 0 ≤ f.opens) (by omega)]; simp), fun g6 => ?_⟩
      rw [br_iff]; refine ⟨fun q => ns (by simp only [br_iff, need_iff, andB_t, andB_f, orB_t, orB_f, notB_t, notB_f, leI_t, leI_f, ltI_t, ltI_f, eqI_t, eqI_f, leN_t, leN_f, eqN_t, eqN_f, eqS_t, eqS_f, eqB_t, eqB_f, catOk_t, leC_t] at q; unfold soundW; rw [decide_eq_false (p := f.opens ≤ 9007199254740991) (by omega)]; simp), fun g7 => ?_⟩
      have rest : (f.gone && decide (f.opens = 0)) = false → rr_vc_1 nx f0 (windowV l) (fun _ _ x m => ∃ k : Nat, x = ⟨prevId l k, foB l f0 k, (k : Int)⟩ ∧ k + m = l.length ∧ goodI nx l k) K ⟨prevId l k, foB l f0 k, (k : Int)⟩ m f.id f.gone := by
        intro g8
        simp only [br_iff, need_iff, andB_t, andB_f, orB_t, orB_f, notB_t, notB_f, leI_t, leI_f, ltI_t, ltI_f, eqI_t, eqI_f, leN_t, leN_f, eqN_t, eqN_f, eqS_t, eqS_f, eqB_t, eqB_f, catOk_t, leC_t, lenS] at g3 g5 g6 g7
        simp only [notB, Bool.not_eq_false'] at g4
        have hsnd : soundW f = true := by
          unfold soundW
          rw [g8, g4, decide_eq_true (p := f.label.length ≤ 64) (by omega), decide_eq_true (p := f.text.length ≤ 65536) (by omega), decide_eq_true (p := 0 ≤ f.opens) (by omega), decide_eq_true (p := f.opens ≤ 9007199254740991) (by omega)]
          rfl
        have hnext := good_step hp gf g1 g2 hsnd
        have ek : addI .i64 (k : Int) 1 = ((k + 1 : Nat) : Int) := by rw [addI_i64 (by omega) (by omega)]; rfl
        have hfo := foB_step (f := f0) gf
        unfold rr_vc_1
        dsimp only
        rw [ek, br_iff]; refine ⟨fun w => ⟨by trivial, m - 1, by omega, k + 1, by rw [prevId_succ gf, hfo, w]; rfl, by omega, hnext⟩, fun w => ?_⟩
        rw [br_iff]; refine ⟨fun w2 => ⟨by trivial, m - 1, by omega, k + 1, by rw [prevId_succ gf, hfo, w, decide_eq_true (by simpa only [br_iff, need_iff, andB_t, andB_f, orB_t, orB_f, notB_t, notB_f, leI_t, leI_f, ltI_t, ltI_f, eqI_t, eqI_f, leN_t, leN_f, eqN_t, eqN_f, eqS_t, eqS_f, eqB_t, eqB_f, catOk_t, leC_t] using w2)]; rfl, by omega, hnext⟩, fun w2 => ⟨by trivial, m - 1, by omega, k + 1, by rw [prevId_succ gf, hfo, w, decide_eq_false (by simpa only [br_iff, need_iff, andB_t, andB_f, orB_t, orB_f, notB_t, notB_f, leI_t, leI_f, ltI_t, ltI_f, eqI_t, eqI_f, leN_t, leN_f, eqN_t, eqN_f, eqS_t, eqS_f, eqB_t, eqB_f, catOk_t, leC_t] using w2)]; rfl, by omega, hnext⟩⟩
      rw [br_iff]; refine ⟨fun w => ?_, fun w => rest (by rw [w]; rfl)⟩
      rw [br_iff]; refine ⟨fun q => ns ?_, fun q => rest (by rw [w, decide_eq_false (by simpa only [br_iff, need_iff, andB_t, andB_f, orB_t, orB_f, notB_t, notB_f, leI_t, leI_f, ltI_t, ltI_f, eqI_t, eqI_f, leN_t, leN_f, eqN_t, eqN_f, eqS_t, eqS_f, eqB_t, eqB_f, catOk_t, leC_t] using q)]; rfl)⟩
      unfold soundW
      rw [w, decide_eq_true (p := f.opens = 0) (by simpa only [br_iff, need_iff, andB_t, andB_f, orB_t, orB_f, notB_t, notB_f, leI_t, leI_f, ltI_t, ltI_f, eqI_t, eqI_f, leN_t, leN_f, eqN_t, eqN_f, eqS_t, eqS_f, eqB_t, eqB_f, catOk_t, leC_t] using q)]; simp
    · have : k = l.length := by simp only [br_iff, need_iff, andB_t, andB_f, orB_t, orB_f, notB_t, notB_f, leI_t, leI_f, ltI_t, ltI_f, eqI_t, eqI_f, leN_t, leN_f, eqN_t, eqN_f, eqS_t, eqS_f, eqB_t, eqB_f, catOk_t, leC_t] at hge; omega
      subst this
      rw [right_end (f0 := f0) q1 q2 (by omega) hp] at hK
      have hg : goodF nx 0 l = true := by rw [← hp.1, List.drop_length]; rfl
      have hasc := (goodF_iff.1 hg).2
      unfold foB
      rw [List.take_length, any_seen hasc]
      exact hK
  · exact h.elim
theorem ra_con {n : Nat} (hn : 1 ≤ n) : ConOk (evalF Tryz.prog cfgN n) 47 idxCon := by
  intro vs bs K h
  unfold idxCon at h
  split at h
  · rename_i nx f0 xs s
    obtain ⟨l, rfl, hb, hK⟩ := h
    refine run_of (lp := lpOf [(2, raL fun _ _ x m => atI l s x.i m)]) (by omega) (fun k hk => noCt_ok _) ?_
    rw [ra_vc]
    simp only [windowV_lenL]
    refine ⟨⟨l.length, by omega, 0, rfl, by omega, fun j g hj => by omega⟩, ?_⟩
    rintro ⟨i⟩ m ⟨k, rfl, hk, hp⟩
    dsimp only
    rw [br_iff]
    refine ⟨fun hlt => ?_, fun hge => ?_⟩
    · have hlt : k < l.length := by simp only [br_iff, need_iff, andB_t, andB_f, orB_t, orB_f, notB_t, notB_f, leI_t, leI_f, ltI_t, ltI_f, eqI_t, eqI_f, leN_t, leN_f, eqN_t, eqN_f, eqS_t, eqS_f, eqB_t, eqB_f, catOk_t, leC_t] at hlt; omega
      have gf : l[k]? = some l[k] := List.getElem?_eq_getElem hlt
      generalize l[k] = f at gf
      have rf := windowV_row gf
      have kf : okRow (windowV l) (Int.toNat (k : Int)) 8 = true := by simpa using windowV_ok (l := l) (i := k) hlt
      have nf : andB (leI 0 (k : Int)) (ltI (k : Int) (l.length : Int)) = true := by simp only [br_iff, need_iff, andB_t, andB_f, orB_t, orB_f, notB_t, notB_f, leI_t, leI_f, ltI_t, ltI_f, eqI_t, eqI_f, leN_t, leN_f, eqN_t, eqN_f, eqS_t, eqS_f, eqB_t, eqB_f, catOk_t, leC_t]; omega
      rw [need_iff, need_iff]
      refine ⟨nf, kf, ?_⟩
      try rw [rf]
      repeat apply Exists.intro
      refine ⟨rfl, ?_⟩
      rw [br_iff]
      refine ⟨fun g => ?_, fun g => ⟨by trivial, m - 1, by omega, k + 1, by rw [addI_i64 (by omega) (by omega)]; omega, by omega, at_next hp gf (by simp only [br_iff, need_iff, andB_t, andB_f, orB_t, orB_f, notB_t, notB_f, leI_t, leI_f, ltI_t, ltI_f, eqI_t, eqI_f, leN_t, leN_f, eqN_t, eqN_f, eqS_t, eqS_f, eqB_t, eqB_f, catOk_t, leC_t] at g; exact g)⟩⟩
      simp only [br_iff, need_iff, andB_t, andB_f, orB_t, orB_f, notB_t, notB_f, leI_t, leI_f, ltI_t, ltI_f, eqI_t, eqI_f, leN_t, leN_f, eqN_t, eqN_f, eqS_t, eqS_f, eqB_t, eqB_f, catOk_t, leC_t] at g
      rw [idxW_at gf g hp] at hK; exact hK
    · have : k = l.length := by simp only [br_iff, need_iff, andB_t, andB_f, orB_t, orB_f, notB_t, notB_f, leI_t, leI_f, ltI_t, ltI_f, eqI_t, eqI_f, leN_t, leN_f, eqN_t, eqN_f, eqS_t, eqS_f, eqB_t, eqB_f, catOk_t, leC_t] at hge; omega
      subst this
      rw [at_end hp] at hK; exact hK
  · exact h.elim
theorem rs_con {n : Nat} (hn : 2 ≤ n) : ConOk (evalF Tryz.prog cfgN n) 46 seenCon := by
  intro vs bs K h
  unfold seenCon at h
  split at h
  · rename_i nx f0 xs id
    obtain ⟨l, rfl, hb, hK⟩ := h
    refine run_of (lp := lpOf []) (by omega) (ct := ctOf [(47, idxCon)]) (fun k hk => ctOf_ok (ctOf_cons (ra_con (by omega)) (ctOf_nil _))) ?_
    rw [rs_vc]
    refine ⟨l, rfl, hb, ?_⟩
    unfold seenW at hK
    rw [br_iff]; refine ⟨fun w => ?_, fun w => ?_⟩
    · have w : 0 ≤ idxW l id := by simpa only [br_iff, need_iff, andB_t, andB_f, orB_t, orB_f, notB_t, notB_f, leI_t, leI_f, ltI_t, ltI_f, eqI_t, eqI_f, leN_t, leN_f, eqN_t, eqN_f, eqS_t, eqS_f, eqB_t, eqB_f, catOk_t, leC_t] using w
      rw [decide_eq_true w, Bool.true_and] at hK
      obtain ⟨i, x, e1, e2, e3, e4, e5⟩ := idxW_found w
      rw [e1] at hK ⊢
      rw [e5] at hK
      rw [ndL e3, need_tt, kdL e3, need_tt]
      exact ⟨x.gone, by rw [windowV_row e2]; rfl, hK⟩
    · have w : ¬ 0 ≤ idxW l id := by simp only [br_iff, need_iff, andB_t, andB_f, orB_t, orB_f, notB_t, notB_f, leI_t, leI_f, ltI_t, ltI_f, eqI_t, eqI_f, leN_t, leN_f, eqN_t, eqN_f, eqS_t, eqS_f, eqB_t, eqB_f, catOk_t, leC_t] at w; omega
      rw [decide_eq_false w] at hK; exact hK
  · exact h.elim
theorem exB_eq {l : List Window} {id : Int} (h : 16 ≤ id) : exB l id = if 6 ≤ id % 16 then false else if id % 16 = 0 then seenW l (id / 16) else decide (0 ≤ idxW l (id / 16)) := by
  unfold exB fileF modI divI
  rw [if_neg (by omega), if_neg (by omega), if_neg (by omega)]
  have hge := idxW_ge l (id / 16)
  by_cases h1 : 6 ≤ id % 16
  · rw [if_pos (.inr (.inl h1)), if_pos h1]; rfl
  · rw [if_neg h1]
    by_cases h2 : id % 16 = 0
    · rw [if_pos h2, if_pos h2]
      unfold seenW
      by_cases h3 : idxW l (id / 16) < 0
      · rw [if_pos (.inl h3), decide_eq_false (by omega)]; rfl
      · rw [decide_eq_true (by omega)]
        cases hg : (wAt l (idxW l (id / 16))).gone with
        | true => rw [if_pos (.inr (.inr ⟨h2, rfl⟩))]; rfl
        | false => rw [if_neg (by rintro (h | h | h); exact h3 h; exact h1 h; cases h.2)]; rfl
    · rw [if_neg h2, if_neg h2]
      by_cases h3 : idxW l (id / 16) < 0
      · rw [if_pos (.inl h3), decide_eq_false (by omega)]; rfl
      · rw [if_neg (by rintro (h | h | h); exact h3 h; exact h1 h; exact h2 h.1), decide_eq_true (by omega)]; rfl
theorem rx_con {n : Nat} (hn : 3 ≤ n) : ConOk (evalF Tryz.prog cfgN n) 51 exCon := by
  intro vs bs K h
  unfold exCon at h
  split at h
  · rename_i nx f0 xs id
    obtain ⟨l, rfl, hb, hid, hK⟩ := h
    refine run_of (lp := lpOf []) (by omega) (ct := ctOf [(47, idxCon), (46, seenCon)]) (fun k hk => ctOf_ok (ctOf_cons (ra_con (by omega)) (ctOf_cons (rs_con (by omega)) (ctOf_nil _)))) ?_
    rw [rx_vc]
    rw [br_iff]; refine ⟨fun g => ?_, fun g1 => ?_⟩
    · have e : exB l id = true := by unfold exB fileF; rw [if_pos (by simpa only [br_iff, need_iff, andB_t, andB_f, orB_t, orB_f, notB_t, notB_f, leI_t, leI_f, ltI_t, ltI_f, eqI_t, eqI_f, leN_t, leN_f, eqN_t, eqN_f, eqS_t, eqS_f, eqB_t, eqB_f, catOk_t, leC_t] using g)]; rfl
      rw [e] at hK; exact hK
    rw [br_iff]; refine ⟨fun g => ?_, fun g2 => ?_⟩
    · have e : exB l id = true := by unfold exB fileF; rw [if_neg (by simpa only [br_iff, need_iff, andB_t, andB_f, orB_t, orB_f, notB_t, notB_f, leI_t, leI_f, ltI_t, ltI_f, eqI_t, eqI_f, leN_t, leN_f, eqN_t, eqN_f, eqS_t, eqS_f, eqB_t, eqB_f, catOk_t, leC_t] using g1), if_pos (by simpa only [br_iff, need_iff, andB_t, andB_f, orB_t, orB_f, notB_t, notB_f, leI_t, leI_f, ltI_t, ltI_f, eqI_t, eqI_f, leN_t, leN_f, eqN_t, eqN_f, eqS_t, eqS_f, eqB_t, eqB_f, catOk_t, leC_t] using g)]; rfl
      rw [e] at hK; exact hK
    rw [br_iff]; refine ⟨fun g => ?_, fun g3 => ?_⟩
    · have e : exB l id = false := by unfold exB fileF; rw [if_neg (by simpa only [br_iff, need_iff, andB_t, andB_f, orB_t, orB_f, notB_t, notB_f, leI_t, leI_f, ltI_t, ltI_f, eqI_t, eqI_f, leN_t, leN_f, eqN_t, eqN_f, eqS_t, eqS_f, eqB_t, eqB_f, catOk_t, leC_t] using g1), if_neg (by simpa only [br_iff, need_iff, andB_t, andB_f, orB_t, orB_f, notB_t, notB_f, leI_t, leI_f, ltI_t, ltI_f, eqI_t, eqI_f, leN_t, leN_f, eqN_t, eqN_f, eqS_t, eqS_f, eqB_t, eqB_f, catOk_t, leC_t] using g2), if_pos (by simpa only [br_iff, need_iff, andB_t, andB_f, orB_t, orB_f, notB_t, notB_f, leI_t, leI_f, ltI_t, ltI_f, eqI_t, eqI_f, leN_t, leN_f, eqN_t, eqN_f, eqS_t, eqS_f, eqB_t, eqB_f, catOk_t, leC_t] using g)]; rfl
      rw [e] at hK; exact hK
    have g3 : 16 ≤ id := by simpa only [br_iff, need_iff, andB_t, andB_f, orB_t, orB_f, notB_t, notB_f, leI_t, leI_f, ltI_t, ltI_f, eqI_t, eqI_f, leN_t, leN_f, eqN_t, eqN_f, eqS_t, eqS_f, eqB_t, eqB_f, catOk_t, leC_t] using g3
    have e1 : quoI .i64 id 16 = id / 16 := quoI_i64 (by omega) hid (by omega)
    have e2 : id.tmod 16 = id % 16 := tmod_pos (by omega)
    rw [e1, e2]
    rw [exB_eq g3] at hK
    rw [br_iff]; refine ⟨fun g => by rw [if_pos (by simp only [br_iff, need_iff, andB_t, andB_f, orB_t, orB_f, notB_t, notB_f, leI_t, leI_f, ltI_t, ltI_f, eqI_t, eqI_f, leN_t, leN_f, eqN_t, eqN_f, eqS_t, eqS_f, eqB_t, eqB_f, catOk_t, leC_t] at g; omega)] at hK; exact hK, fun g4 => ?_⟩
    rw [if_neg (by simp only [br_iff, need_iff, andB_t, andB_f, orB_t, orB_f, notB_t, notB_f, leI_t, leI_f, ltI_t, ltI_f, eqI_t, eqI_f, leN_t, leN_f, eqN_t, eqN_f, eqS_t, eqS_f, eqB_t, eqB_f, catOk_t, leC_t] at g4; omega)] at hK
    rw [br_iff]; refine ⟨fun g => ⟨l, rfl, hb, by rw [if_pos (by simpa only [br_iff, need_iff, andB_t, andB_f, orB_t, orB_f, notB_t, notB_f, leI_t, leI_f, ltI_t, ltI_f, eqI_t, eqI_f, leN_t, leN_f, eqN_t, eqN_f, eqS_t, eqS_f, eqB_t, eqB_f, catOk_t, leC_t] using g)] at hK; exact hK⟩, fun g => ⟨l, rfl, hb, by rw [if_neg (by simpa only [br_iff, need_iff, andB_t, andB_f, orB_t, orB_f, notB_t, notB_f, leI_t, leI_f, ltI_t, ltI_f, eqI_t, eqI_f, leN_t, leN_f, eqN_t, eqN_f, eqS_t, eqS_f, eqB_t, eqB_f, catOk_t, leC_t] using g)] at hK; exact hK⟩⟩
  · exact h.elim
theorem rd2_con {n : Nat} (hn : 1 ≤ n) : ConOk (evalF Tryz.prog cfgN n) 54 dirCon := by
  intro vs bs K h
  unfold dirCon at h
  split at h
  · rename_i id
    refine run_of (lp := lpOf []) hn (fun k _ => noCt_ok _) ?_
    rw [rd2_vc]
    unfold dirB at h
    rw [br_iff]; refine ⟨fun g => by rw [decide_eq_true (by simpa only [br_iff, need_iff, andB_t, andB_f, orB_t, orB_f, notB_t, notB_f, leI_t, leI_f, ltI_t, ltI_f, eqI_t, eqI_f, leN_t, leN_f, eqN_t, eqN_f, eqS_t, eqS_f, eqB_t, eqB_f, catOk_t, leC_t] using g)] at h; exact h, fun g => ?_⟩
    rw [decide_eq_false (by simpa only [br_iff, need_iff, andB_t, andB_f, orB_t, orB_f, notB_t, notB_f, leI_t, leI_f, ltI_t, ltI_f, eqI_t, eqI_f, leN_t, leN_f, eqN_t, eqN_f, eqS_t, eqS_f, eqB_t, eqB_f, catOk_t, leC_t] using g), Bool.false_or] at h
    rw [br_iff]; refine ⟨fun g2 => ?_, fun g2 => by rw [decide_eq_false (by simp only [br_iff, need_iff, andB_t, andB_f, orB_t, orB_f, notB_t, notB_f, leI_t, leI_f, ltI_t, ltI_f, eqI_t, eqI_f, leN_t, leN_f, eqN_t, eqN_f, eqS_t, eqS_f, eqB_t, eqB_f, catOk_t, leC_t] at g2; omega)] at h; exact h⟩
    have g2 : 16 ≤ id := by simpa only [br_iff, need_iff, andB_t, andB_f, orB_t, orB_f, notB_t, notB_f, leI_t, leI_f, ltI_t, ltI_f, eqI_t, eqI_f, leN_t, leN_f, eqN_t, eqN_f, eqS_t, eqS_f, eqB_t, eqB_f, catOk_t, leC_t] using g2
    rw [decide_eq_true g2, Bool.true_and] at h
    rw [tmod_pos (by omega)]
    exact h
  · exact h.elim
theorem rm_con {n : Nat} (hn : 2 ≤ n) : ConOk (evalF Tryz.prog cfgN n) 53 modeCon := by
  intro vs bs K h
  unfold modeCon at h
  split at h
  · rename_i id
    obtain ⟨h0, h⟩ := h
    refine run_of (lp := lpOf []) (by omega) (ct := ctOf [(54, dirCon)]) (fun k hk => ctOf_ok (ctOf_cons (rd2_con (by omega)) (ctOf_nil _))) ?_
    rw [rm_vc, tmod_pos h0]
    unfold modeF at h
    rw [br_iff]; refine ⟨fun g => by rw [if_pos g] at h; exact h, fun g => ?_⟩
    rw [if_neg (by rw [g]; simp)] at h
    rw [br_iff]; refine ⟨fun g => by rw [if_pos (by simpa only [br_iff, need_iff, andB_t, andB_f, orB_t, orB_f, notB_t, notB_f, leI_t, leI_f, ltI_t, ltI_f, eqI_t, eqI_f, leN_t, leN_f, eqN_t, eqN_f, eqS_t, eqS_f, eqB_t, eqB_f, catOk_t, leC_t] using g)] at h; exact h, fun g => ?_⟩
    rw [if_neg (by simpa only [br_iff, need_iff, andB_t, andB_f, orB_t, orB_f, notB_t, notB_f, leI_t, leI_f, ltI_t, ltI_f, eqI_t, eqI_f, leN_t, leN_f, eqN_t, eqN_f, eqS_t, eqS_f, eqB_t, eqB_f, catOk_t, leC_t] using g)] at h
    unfold modeK at h
    rw [br_iff]; refine ⟨fun g => by rw [if_pos (by simpa only [br_iff, need_iff, andB_t, andB_f, orB_t, orB_f, notB_t, notB_f, leI_t, leI_f, ltI_t, ltI_f, eqI_t, eqI_f, leN_t, leN_f, eqN_t, eqN_f, eqS_t, eqS_f, eqB_t, eqB_f, catOk_t, leC_t] using g)] at h; exact h, fun g1 => ?_⟩
    rw [if_neg (by simpa only [br_iff, need_iff, andB_t, andB_f, orB_t, orB_f, notB_t, notB_f, leI_t, leI_f, ltI_t, ltI_f, eqI_t, eqI_f, leN_t, leN_f, eqN_t, eqN_f, eqS_t, eqS_f, eqB_t, eqB_f, catOk_t, leC_t] using g1)] at h
    rw [br_iff]; refine ⟨fun g => by have g : id % 16 = 3 := by simpa only [br_iff, need_iff, andB_t, andB_f, orB_t, orB_f, notB_t, notB_f, leI_t, leI_f, ltI_t, ltI_f, eqI_t, eqI_f, leN_t, leN_f, eqN_t, eqN_f, eqS_t, eqS_f, eqB_t, eqB_f, catOk_t, leC_t] using g
                                     rw [if_neg (by omega), if_pos g] at h; exact h, fun g3 => ?_⟩
    have g3 : ¬ id % 16 = 3 := by simpa only [br_iff, need_iff, andB_t, andB_f, orB_t, orB_f, notB_t, notB_f, leI_t, leI_f, ltI_t, ltI_f, eqI_t, eqI_f, leN_t, leN_f, eqN_t, eqN_f, eqS_t, eqS_f, eqB_t, eqB_f, catOk_t, leC_t] using g3
    rw [br_iff]; refine ⟨fun g => by have g : id % 16 = 4 := by simpa only [br_iff, need_iff, andB_t, andB_f, orB_t, orB_f, notB_t, notB_f, leI_t, leI_f, ltI_t, ltI_f, eqI_t, eqI_f, leN_t, leN_f, eqN_t, eqN_f, eqS_t, eqS_f, eqB_t, eqB_f, catOk_t, leC_t] using g
                                     rw [if_neg (by omega), if_neg g3, if_pos g] at h; exact h, fun g4 => ?_⟩
    have g4 : ¬ id % 16 = 4 := by simpa only [br_iff, need_iff, andB_t, andB_f, orB_t, orB_f, notB_t, notB_f, leI_t, leI_f, ltI_t, ltI_f, eqI_t, eqI_f, leN_t, leN_f, eqN_t, eqN_f, eqS_t, eqS_f, eqB_t, eqB_f, catOk_t, leC_t] using g4
    rw [if_neg g3, if_neg g4] at h
    split at h <;> exact h
  · exact h.elim
theorem did_con {n : Nat} (hn : 7 ≤ n) : ConOk (evalF Tryz.prog cfgN n) 8 didCon := by
  intro vs bs K h
  unfold didCon at h
  split at h
  · rename_i nx f0 xs k a m o c t
    obtain ⟨l, rfl, hRb, ha, hm1, hm2, ht, hK⟩ := h
    have hR := (rightW_iff _).1 hRb
    have hb := right_small hR
    have h0 := hR.next0
    have h1 := hR.next1
    dsimp only at h0 h1 hb
    refine run_of (lp := lpOf []) (by omega) (ct := ctOf [(13, makeCon), (20, focusCon), (15, wtypeCon), (16, openCon), (14, wreadCon), (17, writeCon), (19, closeCon)])
      (fun k hk => ctOf_ok (ctOf_cons (mk_con (by omega)) (ctOf_cons (fo_con (by omega)) (ctOf_cons (wt_con (by omega)) (ctOf_cons (op_con (by omega)) (ctOf_cons (re_con (by omega)) (ctOf_cons (wi_con (by omega)) (ctOf_cons (cs_con (by omega)) (ctOf_nil _))))))))) ?_
    rw [did_vc]
    unfold didF at hK
    dsimp only at hK
    rw [br_iff]; refine ⟨fun g => ⟨l, rfl, hb, ⟨by omega, by omega⟩, by simp only [if_pos (show k = 1 by simpa only [br_iff, need_iff, andB_t, andB_f, orB_t, orB_f, notB_t, notB_f, leI_t, leI_f, ltI_t, ltI_f, eqI_t, eqI_f, leN_t, leN_f, eqN_t, eqN_f, eqS_t, eqS_f, eqB_t, eqB_f, catOk_t, leC_t] using g)] at hK; exact hK⟩, fun g => ?_⟩
    simp only [if_neg (show ¬ k = 1 by simpa only [br_iff, need_iff, andB_t, andB_f, orB_t, orB_f, notB_t, notB_f, leI_t, leI_f, ltI_t, ltI_f, eqI_t, eqI_f, leN_t, leN_f, eqN_t, eqN_f, eqS_t, eqS_f, eqB_t, eqB_f, catOk_t, leC_t] using g)] at hK
    rw [br_iff]; refine ⟨fun g => ⟨l, rfl, hb, by simp only [if_pos (show k = 2 by simpa only [br_iff, need_iff, andB_t, andB_f, orB_t, orB_f, notB_t, notB_f, leI_t, leI_f, ltI_t, ltI_f, eqI_t, eqI_f, leN_t, leN_f, eqN_t, eqN_f, eqS_t, eqS_f, eqB_t, eqB_f, catOk_t, leC_t] using g)] at hK; exact hK⟩, fun g => ?_⟩
    simp only [if_neg (show ¬ k = 2 by simpa only [br_iff, need_iff, andB_t, andB_f, orB_t, orB_f, notB_t, notB_f, leI_t, leI_f, ltI_t, ltI_f, eqI_t, eqI_f, leN_t, leN_f, eqN_t, eqN_f, eqS_t, eqS_f, eqB_t, eqB_f, catOk_t, leC_t] using g)] at hK
    rw [br_iff]; refine ⟨fun g => ⟨l, rfl, hRb, ht, by simp only [if_pos (show k = 3 by simpa only [br_iff, need_iff, andB_t, andB_f, orB_t, orB_f, notB_t, notB_f, leI_t, leI_f, ltI_t, ltI_f, eqI_t, eqI_f, leN_t, leN_f, eqN_t, eqN_f, eqS_t, eqS_f, eqB_t, eqB_f, catOk_t, leC_t] using g)] at hK; exact hK⟩, fun g => ?_⟩
    simp only [if_neg (show ¬ k = 3 by simpa only [br_iff, need_iff, andB_t, andB_f, orB_t, orB_f, notB_t, notB_f, leI_t, leI_f, ltI_t, ltI_f, eqI_t, eqI_f, leN_t, leN_f, eqN_t, eqN_f, eqS_t, eqS_f, eqB_t, eqB_f, catOk_t, leC_t] using g)] at hK
    rw [br_iff]; refine ⟨fun g => ⟨l, rfl, hRb, ha, hm1, hm2, by simp only [if_pos (show k = 4 by simpa only [br_iff, need_iff, andB_t, andB_f, orB_t, orB_f, notB_t, notB_f, leI_t, leI_f, ltI_t, ltI_f, eqI_t, eqI_f, leN_t, leN_f, eqN_t, eqN_f, eqS_t, eqS_f, eqB_t, eqB_f, catOk_t, leC_t] using g)] at hK; exact hK⟩, fun g => ?_⟩
    simp only [if_neg (show ¬ k = 4 by simpa only [br_iff, need_iff, andB_t, andB_f, orB_t, orB_f, notB_t, notB_f, leI_t, leI_f, ltI_t, ltI_f, eqI_t, eqI_f, leN_t, leN_f, eqN_t, eqN_f, eqS_t, eqS_f, eqB_t, eqB_f, catOk_t, leC_t] using g)] at hK
    rw [br_iff]; refine ⟨fun g => ⟨l, rfl, hRb, ha, by simp only [if_pos (show k = 5 by simpa only [br_iff, need_iff, andB_t, andB_f, orB_t, orB_f, notB_t, notB_f, leI_t, leI_f, ltI_t, ltI_f, eqI_t, eqI_f, leN_t, leN_f, eqN_t, eqN_f, eqS_t, eqS_f, eqB_t, eqB_f, catOk_t, leC_t] using g)] at hK; exact hK⟩, fun g => ?_⟩
    simp only [if_neg (show ¬ k = 5 by simpa only [br_iff, need_iff, andB_t, andB_f, orB_t, orB_f, notB_t, notB_f, leI_t, leI_f, ltI_t, ltI_f, eqI_t, eqI_f, leN_t, leN_f, eqN_t, eqN_f, eqS_t, eqS_f, eqB_t, eqB_f, catOk_t, leC_t] using g)] at hK
    rw [br_iff]; refine ⟨fun g => ⟨l, rfl, hRb, ha, by omega, by simp only [if_pos (show k = 6 by simpa only [br_iff, need_iff, andB_t, andB_f, orB_t, orB_f, notB_t, notB_f, leI_t, leI_f, ltI_t, ltI_f, eqI_t, eqI_f, leN_t, leN_f, eqN_t, eqN_f, eqS_t, eqS_f, eqB_t, eqB_f, catOk_t, leC_t] using g)] at hK; exact hK⟩, fun g => ?_⟩
    simp only [if_neg (show ¬ k = 6 by simpa only [br_iff, need_iff, andB_t, andB_f, orB_t, orB_f, notB_t, notB_f, leI_t, leI_f, ltI_t, ltI_f, eqI_t, eqI_f, leN_t, leN_f, eqN_t, eqN_f, eqS_t, eqS_f, eqB_t, eqB_f, catOk_t, leC_t] using g)] at hK
    rw [br_iff]; refine ⟨fun g => ⟨l, rfl, hRb, ha, by simp only [if_pos (show k = 7 by simpa only [br_iff, need_iff, andB_t, andB_f, orB_t, orB_f, notB_t, notB_f, leI_t, leI_f, ltI_t, ltI_f, eqI_t, eqI_f, leN_t, leN_f, eqN_t, eqN_f, eqS_t, eqS_f, eqB_t, eqB_f, catOk_t, leC_t] using g)] at hK; exact hK⟩, fun g => ?_⟩
    simp only [if_neg (show ¬ k = 7 by simpa only [br_iff, need_iff, andB_t, andB_f, orB_t, orB_f, notB_t, notB_f, leI_t, leI_f, ltI_t, ltI_f, eqI_t, eqI_f, leN_t, leN_f, eqN_t, eqN_f, eqS_t, eqS_f, eqB_t, eqB_f, catOk_t, leC_t] using g)] at hK
    exact hK
  · exact h.elim
end Go.Proofs.YtdbbpibfejchfaaGreatDoor
