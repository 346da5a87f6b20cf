/- Windows: conditions of the reference's validity and equality, and of the statements' helpers. -/
import Derived.Test.YtdbbpibfejchfaaDoorWinWalk
import Derived.Test.YtdbbpibfejchfaaDoorWinCall
import Derived.Test.YtdbbpibfejchfaaDoorWinBase
namespace Go.Proofs.YtdbbpibfejchfaaDoor
open Go.RowKit
set_option maxRecDepth 100000
set_option linter.unusedVariables false
set_option linter.unusedSimpArgs false
def okCon : Con := fun vs bs K => match vs, bs with
  | [], [] => K (.bool true) []
  | _, _ => False

def smT (l : List Window) (b : Bool) : Prop := b = true → l.length ≤ 20 ∧ ∀ x ∈ l, x.label.length ≤ 200 ∧ x.text.length ≤ 70000 ∧ x.line.text.length ≤ 2000 ∧ x.line.ready.length ≤ 20

def smCon : Con := fun vs bs K => match vs, bs with
  | [.agg [.int .i64 n, .int .i64 f, .lst xs]], [] => ∃ l, xs = windowV l ∧ ∀ b : Bool, smT l b → K (.bool b) []
  | _, _ => False

def sameLineCon : Con := fun vs bs K => match vs, bs with
  | [.agg [.bool r, .str t, .lst xs], .agg [.bool r2, .str t2, .lst ys]], [] => ∃ l : List (List UInt8), xs = strV l ∧ ys = strV l ∧ l.length ≤ 100000 ∧ r = r2 ∧ t = t2 ∧ K (.bool true) []
  | _, _ => False

def sameWinCon : Con := fun vs bs K => match vs, bs with
  | [.agg [.int .i64 id, .str lb, .bool r, .str t, .lst xs, .str tx, .int .i64 op, .bool g], .agg [.int .i64 id2, .str lb2, .bool r2, .str t2, .lst ys, .str tx2, .int .i64 op2, .bool g2]], [] => ∃ l : List (List UInt8), xs = strV l ∧ ys = strV l ∧ l.length ≤ 100000 ∧ id = id2 ∧ lb = lb2 ∧ r = r2 ∧ t = t2 ∧ tx = tx2 ∧ op = op2 ∧ g = g2 ∧ K (.bool true) []
  | _, _ => False

def sameCon : Con := fun vs bs K => match vs, bs with
  | [.agg [.int .i64 n, .int .i64 f, .lst xs], .agg [.int .i64 n2, .int .i64 f2, .lst ys]], [] => ∃ l, xs = windowV l ∧ ys = windowV l ∧ smallL l ∧ n = n2 ∧ f = f2 ∧ K (.bool true) []
  | _, _ => False

def seenCon : Con := fun vs bs K => match vs, bs with
  | [.agg [.int .i64 n, .int .i64 f, .lst xs], .int .i64 id], [] => ∃ l, xs = windowV l ∧ l.length ≤ 100000 ∧ K (.bool (seenW l id)) []
  | _, _ => False

def exB (l : List Window) (id : Int) : Bool := (fileF l id).isSome

def dirB (id : Int) : Bool := decide (id = 1) || (decide (16 ≤ id) && decide (id % 16 = 0))

def modeF (id : Int) : Int := if dirB id = true then 2147484013 else if id = 2 then 438 else modeK (id % 16)

def exCon : Con := fun vs bs K => match vs, bs with
  | [.agg [.int .i64 n, .int .i64 f, .lst xs], .int .i64 id], [] => ∃ l, xs = windowV l ∧ l.length ≤ 100000 ∧ id ≤ 9223372036854775807 ∧ K (.bool (exB l id)) []
  | _, _ => False

def dirCon : Con := fun vs bs K => match vs, bs with
  | [.int .i64 id], [] => K (.bool (dirB id)) []
  | _, _ => False

def modeCon : Con := fun vs bs K => match vs, bs with
  | [.int .i64 id], [] => 0 ≤ id ∧ K (.int .i64 (modeF id)) []
  | _, _ => False

def didCon : Con := fun vs bs K => match vs, bs with
  | [.agg [.int .i64 n, .int .i64 f, .lst xs], .agg [.int .i64 k, .int .i64 a, .int .i64 m, .int .i64 o, .int .i64 c, .str t]], [] => ∃ l, xs = windowV l ∧ rightW ⟨n, f, l⟩ = true ∧ a ≤ 9223372036854775807 ∧ m ≤ 9223372036854775807 ∧ -9223372036854775808 ≤ m ∧ t.length ≤ 100000 ∧
      K (.tup [.agg [.int .i64 (didF ⟨n, f, l⟩ ⟨k, a, m, o, c, t⟩).1.next, .int .i64 (didF ⟨n, f, l⟩ ⟨k, a, m, o, c, t⟩).1.focus, .lst (windowV (didF ⟨n, f, l⟩ ⟨k, a, m, o, c, t⟩).1.l)], .agg [.int .i64 (didF ⟨n, f, l⟩ ⟨k, a, m, o, c, t⟩).2.n, .str (didF ⟨n, f, l⟩ ⟨k, a, m, o, c, t⟩).2.text, .bool (didF ⟨n, f, l⟩ ⟨k, a, m, o, c, t⟩).2.blocked, .int .i64 (didF ⟨n, f, l⟩ ⟨k, a, m, o, c, t⟩).2.err]]) []
  | _, _ => False

structure smC where
  n : Int
  f : Int
  xs : List (List V)
  cnt : Int
structure smX where
  i : Int
def smSt (c : smC) (x : smX) : St := ⟨[(1, .ptr 0 0 0), (12, .int .i64 c.cnt), (13, .int .i64 x.i)], [(0, ⟨true, true, true, [[.int .i64 c.n, .int .i64 c.f, .lst c.xs]], 0⟩)]⟩
set_option maxHeartbeats 4000000 in
def smUn (s : St) : Option (smC × smX) :=
  match s with
  | ⟨[(q0, .ptr q1 q2 q3), (q4, .int .i64 cnt), (q5, .int .i64 i)], [(q6, ⟨true, true, true, [[.int .i64 n, .int .i64 f, .lst xs]], q7⟩)]⟩ => bif Nat.beq q0 1 && Nat.beq q1 0 && Nat.beq q2 0 && Nat.beq q3 0 && Nat.beq q4 12 && Nat.beq q5 13 && Nat.beq q6 0 && Nat.beq q7 0 then some (⟨n, f, xs, cnt⟩, ⟨i⟩) else none
  | _ => none
set_option maxHeartbeats 4000000 in
def smL (inv : smC → smX → smX → Nat → Prop) : LoopS where
  C := smC
  X := smX
  st := smSt
  un := smUn
  ok := by
    intro s c x h
    unfold smUn at h
    split at h
    · simp only [Bool.cond_eq_ite] at h
      split at h
      · rename_i hg
        simp only [Bool.and_eq_true, Nat.beq_eq] at hg
        obtain ⟨⟨⟨⟨⟨⟨⟨rfl, rfl⟩, rfl⟩, rfl⟩, rfl⟩, rfl⟩, rfl⟩, rfl⟩ := hg
        cases h
        rfl
      · cases h
    · cases h
  inv := inv

structure siC where
  n : Int
  f : Int
  xs : List (List V)
  cnt : Int
  i : Int
  id : Int
  lb : List UInt8
  r : Bool
  t : List UInt8
  ys : List (List V)
  tx : List UInt8
  op : Int
  g : Bool
  cnt2 : Int
structure siX where
  k : Int
def siSt (c : siC) (x : siX) : St := ⟨[(1, .ptr 0 0 0), (4, .ptr 1 0 0), (12, .int .i64 c.cnt), (13, .int .i64 c.i), (48, .int .i64 c.cnt2), (49, .int .i64 x.k)], [(0, ⟨true, true, true, [[.int .i64 c.n, .int .i64 c.f, .lst c.xs]], 0⟩), (1, ⟨true, true, true, [[.int .i64 c.id, .str c.lb, .bool c.r, .str c.t, .lst c.ys, .str c.tx, .int .i64 c.op, .bool c.g]], 0⟩)]⟩
set_option maxHeartbeats 4000000 in
def siUn (s : St) : Option (siC × siX) :=
  match s with
  | ⟨[(q0, .ptr q1 q2 q3), (q4, .ptr q5 q6 q7), (q8, .int .i64 cnt), (q9, .int .i64 i), (q10, .int .i64 cnt2), (q11, .int .i64 k)], [(q12, ⟨true, true, true, [[.int .i64 n, .int .i64 f, .lst xs]], q13⟩), (q14, ⟨true, true, true, [[.int .i64 id, .str lb, .bool r, .str t, .lst ys, .str tx, .int .i64 op, .bool g]], q15⟩)]⟩ => bif Nat.beq q0 1 && Nat.beq q1 0 && Nat.beq q2 0 && Nat.beq q3 0 && Nat.beq q4 4 && Nat.beq q5 1 && Nat.beq q6 0 && Nat.beq q7 0 && Nat.beq q8 12 && Nat.beq q9 13 && Nat.beq q10 48 && Nat.beq q11 49 && Nat.beq q12 0 && Nat.beq q13 0 && Nat.beq q14 1 && Nat.beq q15 0 then some (⟨n, f, xs, cnt, i, id, lb, r, t, ys, tx, op, g, cnt2⟩, ⟨k⟩) else none
  | _ => none
set_option maxHeartbeats 4000000 in
def siL (inv : siC → siX → siX → Nat → Prop) : LoopS where
  C := siC
  X := siX
  st := siSt
  un := siUn
  ok := by
    intro s c x h
    unfold siUn at h
    split at h
    · simp only [Bool.cond_eq_ite] at h
      split at h
      · rename_i hg
        simp only [Bool.and_eq_true, Nat.beq_eq] at hg
        obtain ⟨⟨⟨⟨⟨⟨⟨⟨⟨⟨⟨⟨⟨⟨⟨rfl, rfl⟩, rfl⟩, rfl⟩, rfl⟩, rfl⟩, rfl⟩, rfl⟩, rfl⟩, rfl⟩, rfl⟩, rfl⟩, rfl⟩, rfl⟩, rfl⟩, rfl⟩ := hg
        cases h
        rfl
      · cases h
    · cases h
  inv := inv

structure slC where
  r : Bool
  t : List UInt8
  xs : List (List V)
  r2 : Bool
  t2 : List UInt8
  ys : List (List V)
  cnt : Int
structure slX where
  i : Int
def slSt (c : slC) (x : slX) : St := ⟨[(2, .ptr 0 0 0), (3, .ptr 1 0 0), (29, .int .i64 c.cnt), (30, .int .i64 x.i)], [(0, ⟨true, true, true, [[.bool c.r, .str c.t, .lst c.xs]], 0⟩), (1, ⟨true, true, true, [[.bool c.r2, .str c.t2, .lst c.ys]], 0⟩)]⟩
set_option maxHeartbeats 4000000 in
def slUn (s : St) : Option (slC × slX) :=
  match s with
  | ⟨[(q0, .ptr q1 q2 q3), (q4, .ptr q5 q6 q7), (q8, .int .i64 cnt), (q9, .int .i64 i)], [(q10, ⟨true, true, true, [[.bool r, .str t, .lst xs]], q11⟩), (q12, ⟨true, true, true, [[.bool r2, .str t2, .lst ys]], q13⟩)]⟩ => bif Nat.beq q0 2 && Nat.beq q1 0 && Nat.beq q2 0 && Nat.beq q3 0 && Nat.beq q4 3 && Nat.beq q5 1 && Nat.beq q6 0 && Nat.beq q7 0 && Nat.beq q8 29 && Nat.beq q9 30 && Nat.beq q10 0 && Nat.beq q11 0 && Nat.beq q12 1 && Nat.beq q13 0 then some (⟨r, t, xs, r2, t2, ys, cnt⟩, ⟨i⟩) else none
  | _ => none
set_option maxHeartbeats 4000000 in
def slL (inv : slC → slX → slX → Nat → Prop) : LoopS where
  C := slC
  X := slX
  st := slSt
  un := slUn
  ok := by
    intro s c x h
    unfold slUn at h
    split at h
    · simp only [Bool.cond_eq_ite] at h
      split at h
      · rename_i hg
        simp only [Bool.and_eq_true, Nat.beq_eq] at hg
        obtain ⟨⟨⟨⟨⟨⟨⟨⟨⟨⟨⟨⟨⟨rfl, rfl⟩, rfl⟩, rfl⟩, rfl⟩, rfl⟩, rfl⟩, rfl⟩, rfl⟩, rfl⟩, rfl⟩, rfl⟩, rfl⟩, rfl⟩ := hg
        cases h
        rfl
      · cases h
    · cases h
  inv := inv

structure ssC where
  n : Int
  f : Int
  xs : List (List V)
  n2 : Int
  f2 : Int
  ys : List (List V)
  cnt : Int
structure ssX where
  i : Int
def ssSt (c : ssC) (x : ssX) : St := ⟨[(2, .ptr 0 0 0), (3, .ptr 1 0 0), (29, .int .i64 c.cnt), (30, .int .i64 x.i)], [(0, ⟨true, true, true, [[.int .i64 c.n, .int .i64 c.f, .lst c.xs]], 0⟩), (1, ⟨true, true, true, [[.int .i64 c.n2, .int .i64 c.f2, .lst c.ys]], 0⟩)]⟩
set_option maxHeartbeats 4000000 in
def ssUn (s : St) : Option (ssC × ssX) :=
  match s with
  | ⟨[(q0, .ptr q1 q2 q3), (q4, .ptr q5 q6 q7), (q8, .int .i64 cnt), (q9, .int .i64 i)], [(q10, ⟨true, true, true, [[.int .i64 n, .int .i64 f, .lst xs]], q11⟩), (q12, ⟨true, true, true, [[.int .i64 n2, .int .i64 f2, .lst ys]], q13⟩)]⟩ => bif Nat.beq q0 2 && Nat.beq q1 0 && Nat.beq q2 0 && Nat.beq q3 0 && Nat.beq q4 3 && Nat.beq q5 1 && Nat.beq q6 0 && Nat.beq q7 0 && Nat.beq q8 29 && Nat.beq q9 30 && Nat.beq q10 0 && Nat.beq q11 0 && Nat.beq q12 1 && Nat.beq q13 0 then some (⟨n, f, xs, n2, f2, ys, cnt⟩, ⟨i⟩) else none
  | _ => none
set_option maxHeartbeats 4000000 in
def ssL (inv : ssC → ssX → ssX → Nat → Prop) : LoopS where
  C := ssC
  X := ssX
  st := ssSt
  un := ssUn
  ok := by
    intro s c x h
    unfold ssUn at h
    split at h
    · simp only [Bool.cond_eq_ite] at h
      split at h
      · rename_i hg
        simp only [Bool.and_eq_true, Nat.beq_eq] at hg
        obtain ⟨⟨⟨⟨⟨⟨⟨⟨⟨⟨⟨⟨⟨rfl, rfl⟩, rfl⟩, rfl⟩, rfl⟩, rfl⟩, rfl⟩, rfl⟩, rfl⟩, rfl⟩, rfl⟩, rfl⟩, rfl⟩, rfl⟩ := hg
        cases h
        rfl
      · cases h
    · cases h
  inv := inv

structure rrC where
  n : Int
  f : Int
  xs : List (List V)
  cnt : Int
structure rrX where
  last : Int
  fo : Bool
  i : Int
def rrSt (c : rrC) (x : rrX) : St := ⟨[(1, .ptr 0 0 0), (3, .int .i64 x.last), (4, .bool x.fo), (26, .int .i64 c.cnt), (27, .int .i64 x.i)], [(0, ⟨true, true, true, [[.int .i64 c.n, .int .i64 c.f, .lst c.xs]], 0⟩)]⟩
set_option maxHeartbeats 4000000 in
def rrUn (s : St) : Option (rrC × rrX) :=
  match s with
  | ⟨[(q0, .ptr q1 q2 q3), (q4, .int .i64 last), (q5, .bool fo), (q6, .int .i64 cnt), (q7, .int .i64 i)], [(q8, ⟨true, true, true, [[.int .i64 n, .int .i64 f, .lst xs]], q9⟩)]⟩ => bif Nat.beq q0 1 && Nat.beq q1 0 && Nat.beq q2 0 && Nat.beq q3 0 && Nat.beq q4 3 && Nat.beq q5 4 && Nat.beq q6 26 && Nat.beq q7 27 && Nat.beq q8 0 && Nat.beq q9 0 then some (⟨n, f, xs, cnt⟩, ⟨last, fo, i⟩) else none
  | _ => none
set_option maxHeartbeats 4000000 in
def rrL (inv : rrC → rrX → rrX → Nat → Prop) : LoopS where
  C := rrC
  X := rrX
  st := rrSt
  un := rrUn
  ok := by
    intro s c x h
    unfold rrUn at h
    split at h
    · simp only [Bool.cond_eq_ite] at h
      split at h
      · rename_i hg
        simp only [Bool.and_eq_true, Nat.beq_eq] at hg
        obtain ⟨⟨⟨⟨⟨⟨⟨⟨⟨rfl, rfl⟩, rfl⟩, rfl⟩, rfl⟩, rfl⟩, rfl⟩, rfl⟩, rfl⟩, rfl⟩ := hg
        cases h
        rfl
      · cases h
    · cases h
  inv := inv

structure raC where
  id : Int
  n : Int
  f : Int
  xs : List (List V)
  cnt : Int
structure raX where
  i : Int
def raSt (c : raC) (x : raX) : St := ⟨[(1, .int .i64 c.id), (2, .ptr 0 0 0), (8, .int .i64 c.cnt), (9, .int .i64 x.i)], [(0, ⟨true, true, true, [[.int .i64 c.n, .int .i64 c.f, .lst c.xs]], 0⟩)]⟩
set_option maxHeartbeats 4000000 in
def raUn (s : St) : Option (raC × raX) :=
  match s with
  | ⟨[(q0, .int .i64 id), (q1, .ptr q2 q3 q4), (q5, .int .i64 cnt), (q6, .int .i64 i)], [(q7, ⟨true, true, true, [[.int .i64 n, .int .i64 f, .lst xs]], q8⟩)]⟩ => bif Nat.beq q0 1 && Nat.beq q1 2 && Nat.beq q2 0 && Nat.beq q3 0 && Nat.beq q4 0 && Nat.beq q5 8 && Nat.beq q6 9 && Nat.beq q7 0 && Nat.beq q8 0 then some (⟨id, n, f, xs, cnt⟩, ⟨i⟩) else none
  | _ => none
set_option maxHeartbeats 4000000 in
def raL (inv : raC → raX → raX → Nat → Prop) : LoopS where
  C := raC
  X := raX
  st := raSt
  un := raUn
  ok := by
    intro s c x h
    unfold raUn at h
    split at h
    · simp only [Bool.cond_eq_ite] at h
      split at h
      · rename_i hg
        simp only [Bool.and_eq_true, Nat.beq_eq] at hg
        obtain ⟨⟨⟨⟨⟨⟨⟨⟨rfl, rfl⟩, rfl⟩, rfl⟩, rfl⟩, rfl⟩, rfl⟩, rfl⟩, rfl⟩ := hg
        cases h
        rfl
      · cases h
    · cases h
  inv := inv

theorem sm_vc (n f : Int) (xs : List (List V)) (I : smC → smX → smX → Nat → Prop) (J : siC → siX → siX → Nat → Prop) (K : V → List Bk → Prop) : vcF Tryd.prog cfgN (ctOf []) (lpOf [(4, smL I), (10, siL J)]) 8 [.agg [.int .i64 n, .int .i64 f, .lst xs]] [] K = (
  br (ltI 20 (lenL xs)) (
    K (V.bool false) []) (
    (∃ m6 : Nat, (((m6 : Nat) < 18446744073709551616)) ∧ (
    I (smC.mk n f xs (lenL xs)) (smX.mk 0) (smX.mk 0) m6)) ∧ (
    ∀ x6 : (smL I).X, ∀ m7 : Nat, (I (smC.mk n f xs (lenL xs)) (smX.mk 0) x6 m7) → (
    br (ltI x6.1 (lenL xs)) (
      need (andB (leI 0 x6.1) (ltI x6.1 (lenL xs))) (
      need (okRow xs x6.1.toNat 8) (
      ∃ n8 : Int, ∃ s9 : List UInt8, ∃ b10 : Bool, ∃ s11 : List UInt8, ∃ xs12 : List (List V), ∃ s13 : List UInt8, ∃ n14 : Int, ∃ b15 : Bool, ((sub (rowAt xs x6.1) 0 8 : Option (List V)) = some [V.int IntKind.i64 n8, V.str s9, V.bool b10, V.str s11, V.lst xs12, V.str s13, V.int IntKind.i64 n14, V.bool b15]) ∧ (
      br (ltI 200 (lenS s9)) (
        K (V.bool false) []) (
        br (ltI 70000 (lenS s13)) (
          K (V.bool false) []) (
          br (ltI 2000 (lenS s11)) (
            K (V.bool false) []) (
            br (ltI 20 (lenL xs12)) (
              K (V.bool false) []) (
              (∃ m16 : Nat, (((m16 : Nat) < 18446744073709551616)) ∧ (
              J (siC.mk n f xs (lenL xs) x6.1 n8 s9 b10 s11 xs12 s13 n14 b15 (lenL xs12)) (siX.mk 0) (siX.mk 0) m16)) ∧ (
              ∀ x16 : (siL J).X, ∀ m17 : Nat, (J (siC.mk n f xs (lenL xs) x6.1 n8 s9 b10 s11 xs12 s13 n14 b15 (lenL xs12)) (siX.mk 0) x16 m17) → (
              br (ltI x16.1 (lenL xs12)) (
                need (andB (leI 0 x16.1) (ltI x16.1 (lenL xs12))) (
                need (okRow xs12 x16.1.toNat 1) (
                ∃ s18 : List UInt8, ((sub (rowAt xs12 x16.1) 0 1 : Option (List V)) = some [V.str s18]) ∧ (
                br (ltI 2000 (lenS s18)) (
                  K (V.bool false) []) (
                  ((siC.mk n f xs (lenL xs) x6.1 n8 s9 b10 s11 xs12 s13 n14 b15 (lenL xs12) : (siL J).C) = siC.mk n f xs (lenL xs) x6.1 n8 s9 b10 s11 xs12 s13 n14 b15 (lenL xs12)) ∧ (
                  ∃ m'19 : Nat, (((m'19 : Nat) < m17)) ∧ (
                  J (siC.mk n f xs (lenL xs) x6.1 n8 s9 b10 s11 xs12 s13 n14 b15 (lenL xs12)) (siX.mk 0) (siX.mk (addI IntKind.i64 x16.1 1)) m'19))))))) (
                ((smC.mk n f xs (lenL xs) : (smL I).C) = smC.mk n f xs (lenL xs)) ∧ (
                ∃ m'18 : Nat, (((m'18 : Nat) < m7)) ∧ (
                I (smC.mk n f xs (lenL xs)) (smX.mk 0) (smX.mk (addI IntKind.i64 x6.1 1)) m'18))))))))))))) (
      K (V.bool true) []))))) := by kernel_rfl

theorem sl_vc (r : Bool) (t : List UInt8) (xs : List (List V)) (r2 : Bool) (t2 : List UInt8) (ys : List (List V)) (I : slC → slX → slX → Nat → Prop) (K : V → List Bk → Prop) : vcF Tryd.prog cfgN (ctOf []) (lpOf [(4, slL I)]) 17 [.agg [.bool r, .str t, .lst xs], .agg [.bool r2, .str t2, .lst ys]] [] K = (
  br (notB (eqB r r2)) (
    K (V.bool false) []) (
    br (notB (eqS t t2)) (
      K (V.bool false) []) (
      br (notB (eqI (lenL xs) (lenL ys))) (
        K (V.bool false) []) (
        (∃ m8 : Nat, (((m8 : Nat) < 18446744073709551616)) ∧ (
        I (slC.mk r t xs r2 t2 ys (lenL xs)) (slX.mk 0) (slX.mk 0) m8)) ∧ (
        ∀ x8 : (slL I).X, ∀ m9 : Nat, (I (slC.mk r t xs r2 t2 ys (lenL xs)) (slX.mk 0) x8 m9) → (
        br (ltI x8.1 (lenL xs)) (
          need (andB (leI 0 x8.1) (ltI x8.1 (lenL xs))) (
          need (okRow xs x8.1.toNat 1) (
          ∃ s10 : List UInt8, ((sub (rowAt xs x8.1) 0 1 : Option (List V)) = some [V.str s10]) ∧ (
          need (andB (leI 0 x8.1) (ltI x8.1 (lenL ys))) (
          need (okRow ys x8.1.toNat 1) (
          ∃ s11 : List UInt8, ((sub (rowAt ys x8.1) 0 1 : Option (List V)) = some [V.str s11]) ∧ (
          br (notB (eqS s10 s11)) (
            K (V.bool false) []) (
            ((slC.mk r t xs r2 t2 ys (lenL xs) : (slL I).C) = slC.mk r t xs r2 t2 ys (lenL xs)) ∧ (
            ∃ m'12 : Nat, (((m'12 : Nat) < m9)) ∧ (
            I (slC.mk r t xs r2 t2 ys (lenL xs)) (slX.mk 0) (slX.mk (addI IntKind.i64 x8.1 1)) m'12)))))))))) (
          K (V.bool true) []))))))) := by kernel_rfl

theorem sw_vc (id : Int) (lb : List UInt8) (r : Bool) (t : List UInt8) (xs : List (List V)) (tx : List UInt8) (op : Int) (g : Bool) (id2 : Int) (lb2 : List UInt8) (r2 : Bool) (t2 : List UInt8) (ys : List (List V)) (tx2 : List UInt8) (op2 : Int) (g2 : Bool) (K : V → List Bk → Prop) : vcF Tryd.prog cfgN (ctOf [(17, sameLineCon)]) (lpOf []) 33 [.agg [.int .i64 id, .str lb, .bool r, .str t, .lst xs, .str tx, .int .i64 op, .bool g], .agg [.int .i64 id2, .str lb2, .bool r2, .str t2, .lst ys, .str tx2, .int .i64 op2, .bool g2]] [] K = (
  br (eqI id id2) (
    br (eqS lb lb2) (
      ∃ l17 : List (List UInt8), ((xs : List (List V)) = strV l17) ∧ (
      ((ys : List (List V)) = strV l17) ∧ (
      (((l17.length : Nat) ≤ 100000)) ∧ (
      ((r : Bool) = r2) ∧ (
      ((t : List UInt8) = t2) ∧ (
      br (eqS tx tx2) (
        br (eqI op op2) (
          K (V.bool (eqB g g2)) []) (
          K (V.bool false) [])) (
        K (V.bool false) []))))))) (
      K (V.bool false) [])) (
    K (V.bool false) [])) := by kernel_rfl

theorem ss_vc (n f : Int) (xs : List (List V)) (n2 f2 : Int) (ys : List (List V)) (I : ssC → ssX → ssX → Nat → Prop) (K : V → List Bk → Prop) : vcF Tryd.prog cfgN (ctOf [(33, sameWinCon)]) (lpOf [(4, ssL I)]) 13 [.agg [.int .i64 n, .int .i64 f, .lst xs], .agg [.int .i64 n2, .int .i64 f2, .lst ys]] [] K = (
  br (notB (eqI n n2)) (
    K (V.bool false) []) (
    br (notB (eqI f f2)) (
      K (V.bool false) []) (
      br (notB (eqI (lenL xs) (lenL ys))) (
        K (V.bool false) []) (
        (∃ m8 : Nat, (((m8 : Nat) < 18446744073709551616)) ∧ (
        I (ssC.mk n f xs n2 f2 ys (lenL xs)) (ssX.mk 0) (ssX.mk 0) m8)) ∧ (
        ∀ x8 : (ssL I).X, ∀ m9 : Nat, (I (ssC.mk n f xs n2 f2 ys (lenL xs)) (ssX.mk 0) x8 m9) → (
        br (ltI x8.1 (lenL xs)) (
          need (andB (leI 0 x8.1) (ltI x8.1 (lenL xs))) (
          need (okRow xs x8.1.toNat 8) (
          ∃ n10 : Int, ∃ s11 : List UInt8, ∃ b12 : Bool, ∃ s13 : List UInt8, ∃ xs14 : List (List V), ∃ s15 : List UInt8, ∃ n16 : Int, ∃ b17 : Bool, ((sub (rowAt xs x8.1) 0 8 : Option (List V)) = some [V.int IntKind.i64 n10, V.str s11, V.bool b12, V.str s13, V.lst xs14, V.str s15, V.int IntKind.i64 n16, V.bool b17]) ∧ (
          need (andB (leI 0 x8.1) (ltI x8.1 (lenL ys))) (
          need (okRow ys x8.1.toNat 8) (
          ∃ n18 : Int, ∃ s19 : List UInt8, ∃ b20 : Bool, ∃ s21 : List UInt8, ∃ xs22 : List (List V), ∃ s23 : List UInt8, ∃ n24 : Int, ∃ b25 : Bool, ((sub (rowAt ys x8.1) 0 8 : Option (List V)) = some [V.int IntKind.i64 n18, V.str s19, V.bool b20, V.str s21, V.lst xs22, V.str s23, V.int IntKind.i64 n24, V.bool b25]) ∧ (
          ∃ l26 : List (List UInt8), ((xs14 : List (List V)) = strV l26) ∧ (
          ((xs22 : List (List V)) = strV l26) ∧ (
          (((l26.length : Nat) ≤ 100000)) ∧ (
          ((n10 : Int) = n18) ∧ (
          ((s11 : List UInt8) = s19) ∧ (
          ((b12 : Bool) = b20) ∧ (
          ((s13 : List UInt8) = s21) ∧ (
          ((s15 : List UInt8) = s23) ∧ (
          ((n16 : Int) = n24) ∧ (
          ((b17 : Bool) = b25) ∧ (
          ((ssC.mk n f xs n2 f2 ys (lenL xs) : (ssL I).C) = ssC.mk n f xs n2 f2 ys (lenL xs)) ∧ (
          ∃ m'27 : Nat, (((m'27 : Nat) < m9)) ∧ (
          I (ssC.mk n f xs n2 f2 ys (lenL xs)) (ssX.mk 0) (ssX.mk (addI IntKind.i64 x8.1 1)) m'27))))))))))))))))))) (
          K (V.bool true) []))))))) := by kernel_rfl

def rr_vc_1 (n f : Int) (xs : List (List V)) (I : rrC → rrX → rrX → Nat → Prop) (K : V → List Bk → Prop) (x5 : (rrL I).X) (m6 : Nat) (n7 : Int) (b14 : Bool) : Prop :=
  (
                            br (x5.2) (
                              ((rrC.mk n f xs (lenL xs) : (rrL I).C) = rrC.mk n f xs (lenL xs)) ∧ (
                              ∃ m'16 : Nat, (((m'16 : Nat) < m6)) ∧ (
                              I (rrC.mk n f xs (lenL xs)) (rrX.mk 0 (eqI f 0) 0) (rrX.mk n7 true (addI IntKind.i64 x5.3 1)) m'16))) (
                              br (eqI n7 f) (
                                ((rrC.mk n f xs (lenL xs) : (rrL I).C) = rrC.mk n f xs (lenL xs)) ∧ (
                                ∃ m'16 : Nat, (((m'16 : Nat) < m6)) ∧ (
                                I (rrC.mk n f xs (lenL xs)) (rrX.mk 0 (eqI f 0) 0) (rrX.mk n7 (notB b14) (addI IntKind.i64 x5.3 1)) m'16))) (
                                ((rrC.mk n f xs (lenL xs) : (rrL I).C) = rrC.mk n f xs (lenL xs)) ∧ (
                                ∃ m'16 : Nat, (((m'16 : Nat) < m6)) ∧ (
                                I (rrC.mk n f xs (lenL xs)) (rrX.mk 0 (eqI f 0) 0) (rrX.mk n7 false (addI IntKind.i64 x5.3 1)) m'16)))))
theorem rr_vc (n f : Int) (xs : List (List V)) (I : rrC → rrX → rrX → Nat → Prop) (K : V → List Bk → Prop) : vcF Tryd.prog cfgN (ctOf [(31, rgCon)]) (lpOf [(5, rrL I)]) 11 [.agg [.int .i64 n, .int .i64 f, .lst xs]] [] K = (
  br (ltI n 1) (
    K (V.bool false) []) (
    br (ltI 1048576 n) (
      K (V.bool false) []) (
      br (ltI 16 (lenL xs)) (
        K (V.bool false) []) (
        (∃ m5 : Nat, (((m5 : Nat) < 18446744073709551616)) ∧ (
        I (rrC.mk n f xs (lenL xs)) (rrX.mk 0 (eqI f 0) 0) (rrX.mk 0 (eqI f 0) 0) m5)) ∧ (
        ∀ x5 : (rrL I).X, ∀ m6 : Nat, (I (rrC.mk n f xs (lenL xs)) (rrX.mk 0 (eqI f 0) 0) x5 m6) → (
        br (ltI x5.3 (lenL xs)) (
          need (andB (leI 0 x5.3) (ltI x5.3 (lenL xs))) (
          need (okRow xs x5.3.toNat 8) (
          ∃ n7 : Int, ∃ s8 : List UInt8, ∃ b9 : Bool, ∃ s10 : List UInt8, ∃ xs11 : List (List V), ∃ s12 : List UInt8, ∃ n13 : Int, ∃ b14 : Bool, ((sub (rowAt xs x5.3) 0 8 : Option (List V)) = some [V.int IntKind.i64 n7, V.str s8, V.bool b9, V.str s10, V.lst xs11, V.str s12, V.int IntKind.i64 n13, V.bool b14]) ∧ (
          br (leI n7 x5.1) (
            K (V.bool false) []) (
            br (leI n n7) (
              K (V.bool false) []) (
              br (ltI 64 (lenS s8)) (
                K (V.bool false) []) (
                ∃ l15 : List (List UInt8), ((xs11 : List (List V)) = strV l15) ∧ (
                (((l15.length : Nat) ≤ 100000)) ∧ (
                (((s10.length : Nat) ≤ 100000)) ∧ (
                br (notB (rightL (Line.mk b9 s10 l15))) (
                  K (V.bool false) []) (
                  br (ltI 65536 (lenS s12)) (
                    K (V.bool false) []) (
                    br (ltI n13 0) (
                      K (V.bool false) []) (
                      br (ltI 9007199254740991 n13) (
                        K (V.bool false) []) (
                        br (b14) (
                          br (eqI n13 0) (
                            K (V.bool false) []) (rr_vc_1 n f xs I K x5 m6 n7 b14)) (rr_vc_1 n f xs I K x5 m6 n7 b14))))))))))))))) (
          K (V.bool x5.2) []))))))) := by kernel_rfl

theorem ra_vc (n f : Int) (xs : List (List V)) (id : Int) (I : raC → raX → raX → Nat → Prop) (K : V → List Bk → Prop) : vcF Tryd.prog cfgN (ctOf []) (lpOf [(2, raL I)]) 64 [.agg [.int .i64 n, .int .i64 f, .lst xs], .int .i64 id] [] K = (
  (∃ m6 : Nat, (((m6 : Nat) < 18446744073709551616)) ∧ (
  I (raC.mk id n f xs (lenL xs)) (raX.mk 0) (raX.mk 0) m6)) ∧ (
  ∀ x6 : (raL I).X, ∀ m7 : Nat, (I (raC.mk id n f xs (lenL xs)) (raX.mk 0) x6 m7) → (
  br (ltI x6.1 (lenL xs)) (
    need (andB (leI 0 x6.1) (ltI x6.1 (lenL xs))) (
    need (okRow xs x6.1.toNat 8) (
    ∃ n8 : Int, ((sub (rowAt xs x6.1) 0 1 : Option (List V)) = some [V.int IntKind.i64 n8]) ∧ (
    br (eqI n8 id) (
      K (V.int IntKind.i64 x6.1) []) (
      ((raC.mk id n f xs (lenL xs) : (raL I).C) = raC.mk id n f xs (lenL xs)) ∧ (
      ∃ m'9 : Nat, (((m'9 : Nat) < m7)) ∧ (
      I (raC.mk id n f xs (lenL xs)) (raX.mk 0) (raX.mk (addI IntKind.i64 x6.1 1)) m'9))))))) (
    K (V.int IntKind.i64 (-1)) [])))) := by kernel_rfl

theorem rs_vc (n f : Int) (xs : List (List V)) (id : Int) (K : V → List Bk → Prop) : vcF Tryd.prog cfgN (ctOf [(64, idxCon)]) (lpOf []) 63 [.agg [.int .i64 n, .int .i64 f, .lst xs], .int .i64 id] [] K = (
  ∃ l5 : List Window, ((xs : List (List V)) = windowV l5) ∧ (
  (((l5.length : Nat) ≤ 100000)) ∧ (
  br (leI 0 (idxW l5 id)) (
    need (andB (leI 0 (idxW l5 id)) (ltI (idxW l5 id) (lenL xs))) (
    need (okRow xs (idxW l5 id).toNat 8) (
    ∃ b6 : Bool, ((sub (rowAt xs (idxW l5 id)) 7 1 : Option (List V)) = some [V.bool b6]) ∧ (
    K (V.bool (notB b6)) [])))) (
    K (V.bool false) [])))) := by kernel_rfl

theorem rx_vc (n f : Int) (xs : List (List V)) (id : Int) (K : V → List Bk → Prop) : vcF Tryd.prog cfgN (ctOf [(64, idxCon), (63, seenCon)]) (lpOf []) 42 [.agg [.int .i64 n, .int .i64 f, .lst xs], .int .i64 id] [] K = (
  br (eqI id 1) (
    K (V.bool true) []) (
    br (eqI id 2) (
      K (V.bool true) []) (
      br (ltI id 16) (
        K (V.bool false) []) (
        br (ltI 5 (id.tmod 16)) (
          K (V.bool false) []) (
          br (eqI (id.tmod 16) 0) (
            ∃ l5 : List Window, ((xs : List (List V)) = windowV l5) ∧ (
            (((l5.length : Nat) ≤ 100000)) ∧ (
            K (V.bool (seenW l5 (quoI IntKind.i64 id 16))) []))) (
            ∃ l5 : List Window, ((xs : List (List V)) = windowV l5) ∧ (
            (((l5.length : Nat) ≤ 100000)) ∧ (
            K (V.bool (leI 0 (idxW l5 (quoI IntKind.i64 id 16)))) [])))))))) := by kernel_rfl

theorem rd2_vc (id : Int) (K : V → List Bk → Prop) : vcF Tryd.prog cfgN (ctOf []) (lpOf []) 43 [.int .i64 id] [] K = (
  br (eqI id 1) (
    K (V.bool true) []) (
    br (leI 16 id) (
      K (V.bool (eqI (id.tmod 16) 0)) []) (
      K (V.bool false) []))) := by kernel_rfl

theorem rm_vc (id : Int) (K : V → List Bk → Prop) : vcF Tryd.prog cfgN (ctOf [(43, dirCon)]) (lpOf []) 46 [.int .i64 id] [] K = (
  br (dirB id) (
    K (V.int IntKind.i64 2147484013) []) (
    br (eqI id 2) (
      K (V.int IntKind.i64 438) []) (
      br (eqI (id.tmod 16) 1) (
        K (V.int IntKind.i64 438) []) (
        br (eqI (id.tmod 16) 3) (
          K (V.int IntKind.i64 438) []) (
          br (eqI (id.tmod 16) 4) (
            K (V.int IntKind.i64 292) []) (
            K (V.int IntKind.i64 146) [])))))) := by kernel_rfl

theorem did_vc (n f : Int) (xs : List (List V)) (k a m o c : Int) (t : List UInt8) (K : V → List Bk → Prop) : vcF Tryd.prog cfgN (ctOf [(12, makeCon), (18, focusCon), (14, wtypeCon), (26, openCon), (15, wreadCon), (27, writeCon), (28, closeCon)]) (lpOf []) 16 [.agg [.int .i64 n, .int .i64 f, .lst xs], .agg [.int .i64 k, .int .i64 a, .int .i64 m, .int .i64 o, .int .i64 c, .str t]] [] K = (
  br (eqI k 1) (
    ∃ l10 : List Window, ((xs : List (List V)) = windowV l10) ∧ (
    (smallL l10) ∧ (
    ((((n : Int) ≤ 9223372036854775807)) ∧ (
    ((-9223372036854775808 : Int) ≤ n))) ∧ (
    K (V.tup [V.agg [V.int IntKind.i64 (makeF (Windows.mk n f l10) t).fst.1, V.int IntKind.i64 (makeF (Windows.mk n f l10) t).fst.2, V.lst (windowV (makeF (Windows.mk n f l10) t).fst.3)], V.agg [V.int IntKind.i64 (makeF (Windows.mk n f l10) t).snd.1, V.str [], V.bool false, V.int IntKind.i64 (makeF (Windows.mk n f l10) t).snd.2]]) [])))) (
    br (eqI k 2) (
      ∃ l10 : List Window, ((xs : List (List V)) = windowV l10) ∧ (
      (smallL l10) ∧ (
      K (V.tup [V.agg [V.int IntKind.i64 (focusF (Windows.mk n f l10) a).fst.1, V.int IntKind.i64 (focusF (Windows.mk n f l10) a).fst.2, V.lst (windowV (focusF (Windows.mk n f l10) a).fst.3)], V.agg [V.int IntKind.i64 0, V.str [], V.bool false, V.int IntKind.i64 (focusF (Windows.mk n f l10) a).2]]) []))) (
      br (eqI k 3) (
        ∃ l10 : List Window, ((xs : List (List V)) = windowV l10) ∧ (
        ((rightW (Windows.mk n f l10) : Bool) = true) ∧ (
        (((t.length : Nat) ≤ 100000)) ∧ (
        K (V.tup [V.agg [V.int IntKind.i64 (typeW (Windows.mk n f l10) t).1, V.int IntKind.i64 (typeW (Windows.mk n f l10) t).2, V.lst (windowV (typeW (Windows.mk n f l10) t).3)], V.agg [V.int IntKind.i64 0, V.str [], V.bool false, V.int IntKind.i64 0]]) [])))) (
        br (eqI k 4) (
          ∃ l10 : List Window, ((xs : List (List V)) = windowV l10) ∧ (
          ((rightW (Windows.mk n f l10) : Bool) = true) ∧ (
          (((a : Int) ≤ 9223372036854775807)) ∧ (
          (((m : Int) ≤ 9223372036854775807)) ∧ (
          (((-9223372036854775808 : Int) ≤ m)) ∧ (
          K (V.tup [V.agg [V.int IntKind.i64 (openF (Windows.mk n f l10) a m).fst.1, V.int IntKind.i64 (openF (Windows.mk n f l10) a m).fst.2, V.lst (windowV (openF (Windows.mk n f l10) a m).fst.3)], V.agg [V.int IntKind.i64 0, V.str [], V.bool false, V.int IntKind.i64 (openF (Windows.mk n f l10) a m).2]]) [])))))) (
          br (eqI k 5) (
            ∃ l10 : List Window, ((xs : List (List V)) = windowV l10) ∧ (
            ((rightW (Windows.mk n f l10) : Bool) = true) ∧ (
            (((a : Int) ≤ 9223372036854775807)) ∧ (
            K (V.tup [V.agg [V.int IntKind.i64 (readW (Windows.mk n f l10) a o c).fst.1, V.int IntKind.i64 (readW (Windows.mk n f l10) a o c).fst.2, V.lst (windowV (readW (Windows.mk n f l10) a o c).fst.3)], V.agg [V.int IntKind.i64 0, V.str (readW (Windows.mk n f l10) a o c).snd.1, V.bool (readW (Windows.mk n f l10) a o c).snd.snd.1, V.int IntKind.i64 (readW (Windows.mk n f l10) a o c).snd.snd.2]]) [])))) (
            br (eqI k 6) (
              ∃ l10 : List Window, ((xs : List (List V)) = windowV l10) ∧ (
              ((rightW (Windows.mk n f l10) : Bool) = true) ∧ (
              (((a : Int) ≤ 9223372036854775807)) ∧ (
              (((t.length : Nat) ≤ 1000000)) ∧ (
              K (V.tup [V.agg [V.int IntKind.i64 (writeW (Windows.mk n f l10) a t).fst.1, V.int IntKind.i64 (writeW (Windows.mk n f l10) a t).fst.2, V.lst (windowV (writeW (Windows.mk n f l10) a t).fst.3)], V.agg [V.int IntKind.i64 (writeW (Windows.mk n f l10) a t).snd.1, V.str [], V.bool false, V.int IntKind.i64 (writeW (Windows.mk n f l10) a t).snd.2]]) []))))) (
              br (eqI k 7) (
                ∃ l10 : List Window, ((xs : List (List V)) = windowV l10) ∧ (
                ((rightW (Windows.mk n f l10) : Bool) = true) ∧ (
                (((a : Int) ≤ 9223372036854775807)) ∧ (
                K (V.tup [V.agg [V.int IntKind.i64 (closeW (Windows.mk n f l10) a).1, V.int IntKind.i64 (closeW (Windows.mk n f l10) a).2, V.lst (windowV (closeW (Windows.mk n f l10) a).3)], V.agg [V.int IntKind.i64 0, V.str [], V.bool false, V.int IntKind.i64 0]]) [])))) (
                K (V.tup [V.agg [V.int IntKind.i64 n, V.int IntKind.i64 f, V.lst xs], V.agg [V.int IntKind.i64 0, V.str [], V.bool false, V.int IntKind.i64 0]]) [])))))))) := by kernel_rfl

end Go.Proofs.YtdbbpibfejchfaaDoor
namespace Go.Proofs.YtdbbpibfejchfaaDoor
open Go.RowKit
set_option maxRecDepth 100000
set_option linter.unusedVariables false
set_option linter.unusedSimpArgs false
def Says (f : Nat) (vs : List V) : Prop := ∃ r out, evalF Tryd.prog cfgN 20 f vs [] = some (r, out) ∧ r = .bool true ∧ out = []
theorem ok_con {n : Nat} (hn : 14 ≤ n) : ConOk (evalF Tryd.prog cfgN n) 9 okCon := by
  intro vs bs K h
  unfold okCon at h
  split at h
  · exact ⟨_, _, awake_ev hn, h⟩
  · exact h.elim
theorem sm_con {n : Nat} (hn : 1 ≤ n) : ConOk (evalF Tryd.prog cfgN n) 8 smCon := by
  intro vs bs K h
  unfold smCon at h
  split at h
  · rename_i nx f0 xs
    obtain ⟨l, rfl, hK⟩ := h
    refine run_of (lp := lpOf [(4, smL fun _ _ x m => ∃ k : Nat, x = ⟨(k : Int)⟩ ∧ k + m = l.length ∧ ∀ x ∈ l.take k, x.label.length ≤ 200 ∧ x.text.length ≤ 70000 ∧ x.line.text.length ≤ 2000 ∧ x.line.ready.length ≤ 20), (10, siL fun c _ x m => 0 ≤ x.k ∧ x.k + m = c.cnt2)]) hn (fun k _ => noCt_ok _) ?_
    rw [sm_vc]
    have no : K (.bool false) [] := hK false (fun h => by cases h)
    simp only [windowV_lenL]
    rw [br_iff]; refine ⟨fun _ => no, fun g0 => ?_⟩
    have g0 : l.length ≤ 20 := by simp only [br_iff, need_iff, andB_t, andB_f, orB_t, orB_f, notB_t, notB_f, leI_t, leI_f, ltI_t, ltI_f, eqI_t, eqI_f, leN_t, leN_f, eqN_t, eqN_f, eqS_t, eqS_f, eqB_t, eqB_f, catOk_t, leC_t] at g0; omega
    refine ⟨⟨l.length, by omega, 0, rfl, by omega, fun x hx => by simp at hx⟩, ?_⟩
    rintro _ m ⟨k, rfl, hk, hp⟩
    dsimp only
    rw [br_iff]
    refine ⟨fun hlt => ?_, fun hge => hK true fun _ => ?_⟩
    · have hlt : k < l.length := by simp only [br_iff, need_iff, andB_t, andB_f, orB_t, orB_f, notB_t, notB_f, leI_t, leI_f, ltI_t, ltI_f, eqI_t, eqI_f, leN_t, leN_f, eqN_t, eqN_f, eqS_t, eqS_f, eqB_t, eqB_f, catOk_t, leC_t] at hlt; omega
      have gf : l[k]? = some l[k] := List.getElem?_eq_getElem hlt
      generalize l[k] = f at gf
      have rf := windowV_row gf
      have kf : okRow (windowV l) (Int.toNat (k : Int)) 8 = true := by simpa using windowV_ok (l := l) (i := k) hlt
      have nf : andB (leI 0 (k : Int)) (ltI (k : Int) (l.length : Int)) = true := by simp only [br_iff, need_iff, andB_t, andB_f, orB_t, orB_f, notB_t, notB_f, leI_t, leI_f, ltI_t, ltI_f, eqI_t, eqI_f, leN_t, leN_f, eqN_t, eqN_f, eqS_t, eqS_f, eqB_t, eqB_f, catOk_t, leC_t]; omega
      rw [need_iff, need_iff]
      refine ⟨nf, kf, ?_⟩
      try rw [rf]
      repeat apply Exists.intro
      refine ⟨rfl, ?_⟩
      rw [br_iff]; refine ⟨fun _ => no, fun g1 => ?_⟩
      rw [br_iff]; refine ⟨fun _ => no, fun g2 => ?_⟩
      rw [br_iff]; refine ⟨fun _ => no, fun g3 => ?_⟩
      rw [br_iff]; refine ⟨fun _ => no, fun g4 => ?_⟩
      rw [strV_lenL] at g4 ⊢
      simp only [br_iff, need_iff, andB_t, andB_f, orB_t, orB_f, notB_t, notB_f, leI_t, leI_f, ltI_t, ltI_f, eqI_t, eqI_f, leN_t, leN_f, eqN_t, eqN_f, eqS_t, eqS_f, eqB_t, eqB_f, catOk_t, leC_t, lenS] at g1 g2 g3 g4
      refine ⟨⟨f.line.ready.length, by omega, by simp, by simp⟩, ?_⟩
      rintro ⟨j⟩ m2 ⟨hj, hj2⟩
      dsimp only at hj hj2 ⊢
      obtain ⟨j, rfl⟩ := Int.eq_ofNat_of_zero_le hj
      rw [br_iff]; refine ⟨fun q => ?_, fun q => ?_⟩
      · have q : j < f.line.ready.length := by simp only [br_iff, need_iff, andB_t, andB_f, orB_t, orB_f, notB_t, notB_f, leI_t, leI_f, ltI_t, ltI_f, eqI_t, eqI_f, leN_t, leN_f, eqN_t, eqN_f, eqS_t, eqS_f, eqB_t, eqB_f, catOk_t, leC_t] at q; omega
        have ge : f.line.ready[j]? = some f.line.ready[j] := List.getElem?_eq_getElem q
        generalize f.line.ready[j] = e at ge
        have re := strV_row ge
        have ke : okRow (strV f.line.ready) (Int.toNat (j : Int)) 1 = true := by simpa using strV_ok (l := f.line.ready) (i := j) q
        have ne : andB (leI 0 (j : Int)) (ltI (j : Int) (f.line.ready.length : Int)) = true := by simp only [br_iff, need_iff, andB_t, andB_f, orB_t, orB_f, notB_t, notB_f, leI_t, leI_f, ltI_t, ltI_f, eqI_t, eqI_f, leN_t, leN_f, eqN_t, eqN_f, eqS_t, eqS_f, eqB_t, eqB_f, catOk_t, leC_t]; omega
        rw [need_iff]; refine ⟨by simp only [br_iff, need_iff, andB_t, andB_f, orB_t, orB_f, notB_t, notB_f, leI_t, leI_f, ltI_t, ltI_f, eqI_t, eqI_f, leN_t, leN_f, eqN_t, eqN_f, eqS_t, eqS_f, eqB_t, eqB_f, catOk_t, leC_t]; omega, ?_⟩
        rw [need_iff]; refine ⟨ke, ?_⟩
        rw [re]
        refine ⟨e, rfl, ?_⟩
        rw [br_iff]
        exact ⟨fun _ => no, fun _ => ⟨by trivial, m2 - 1, by omega, by rw [addI_i64 (by omega) (by omega)]; omega, by rw [addI_i64 (by omega) (by omega)]; omega⟩⟩
      · refine ⟨by trivial, m - 1, by omega, k + 1, by rw [addI_i64 (by omega) (by omega)]; rfl, by omega, fun x hx => ?_⟩
        obtain ⟨hk2, rfl⟩ := List.getElem?_eq_some_iff.1 gf
        rw [List.take_succ_eq_append_getElem hk2] at hx
        rcases List.mem_append.1 hx with hx | hx
        · exact hp x hx
        · simp at hx; subst hx; omega
    · have : k = l.length := by simp only [br_iff, need_iff, andB_t, andB_f, orB_t, orB_f, notB_t, notB_f, leI_t, leI_f, ltI_t, ltI_f, eqI_t, eqI_f, leN_t, leN_f, eqN_t, eqN_f, eqS_t, eqS_f, eqB_t, eqB_f, catOk_t, leC_t] at hge; omega
      subst this
      rw [List.take_length] at hp
      exact ⟨g0, hp⟩
  · exact h.elim
theorem sl_con {n : Nat} (hn : 1 ≤ n) : ConOk (evalF Tryd.prog cfgN n) 17 sameLineCon := by
  intro vs bs K h
  unfold sameLineCon at h
  split at h
  · rename_i r t xs r2 t2 ys
    obtain ⟨l, rfl, rfl, hb, rfl, rfl, hK⟩ := h
    refine run_of (lp := lpOf [(4, slL fun _ _ x m => ∃ k : Nat, x = ⟨(k : Int)⟩ ∧ k + m = l.length)]) (by omega) (fun k hk => noCt_ok _) ?_
    rw [sl_vc]
    simp only [strV_lenL]
    rw [br_iff]; refine ⟨fun g => by simp only [br_iff, need_iff, andB_t, andB_f, orB_t, orB_f, notB_t, notB_f, leI_t, leI_f, ltI_t, ltI_f, eqI_t, eqI_f, leN_t, leN_f, eqN_t, eqN_f, eqS_t, eqS_f, eqB_t, eqB_f, catOk_t, leC_t] at g; exact absurd rfl g, fun _ => ?_⟩
    rw [br_iff]; refine ⟨fun g => by simp only [br_iff, need_iff, andB_t, andB_f, orB_t, orB_f, notB_t, notB_f, leI_t, leI_f, ltI_t, ltI_f, eqI_t, eqI_f, leN_t, leN_f, eqN_t, eqN_f, eqS_t, eqS_f, eqB_t, eqB_f, catOk_t, leC_t] at g; exact absurd rfl g, fun _ => ?_⟩
    rw [br_iff]; refine ⟨fun g => by simp only [br_iff, need_iff, andB_t, andB_f, orB_t, orB_f, notB_t, notB_f, leI_t, leI_f, ltI_t, ltI_f, eqI_t, eqI_f, leN_t, leN_f, eqN_t, eqN_f, eqS_t, eqS_f, eqB_t, eqB_f, catOk_t, leC_t] at g; exact absurd rfl g, fun _ => ⟨⟨l.length, by omega, 0, rfl, by omega⟩, ?_⟩⟩
    rintro _ m ⟨k, rfl, hk⟩
    dsimp only
    rw [br_iff]
    refine ⟨fun hlt => ?_, fun hge => hK⟩
    have hlt : k < l.length := by simp only [br_iff, need_iff, andB_t, andB_f, orB_t, orB_f, notB_t, notB_f, leI_t, leI_f, ltI_t, ltI_f, eqI_t, eqI_f, leN_t, leN_f, eqN_t, eqN_f, eqS_t, eqS_f, eqB_t, eqB_f, catOk_t, leC_t] at hlt; omega
    have gf : l[k]? = some l[k] := List.getElem?_eq_getElem hlt
    generalize l[k] = f at gf
    have rf := strV_row gf
    have kf : okRow (strV l) (Int.toNat (k : Int)) 1 = true := by simpa using strV_ok (l := l) (i := k) hlt
    have nf : andB (leI 0 (k : Int)) (ltI (k : Int) (l.length : Int)) = true := by simp only [br_iff, need_iff, andB_t, andB_f, orB_t, orB_f, notB_t, notB_f, leI_t, leI_f, ltI_t, ltI_f, eqI_t, eqI_f, leN_t, leN_f, eqN_t, eqN_f, eqS_t, eqS_f, eqB_t, eqB_f, catOk_t, leC_t]; omega
    rw [need_iff, need_iff]
    refine ⟨nf, kf, ?_⟩
    try rw [rf]
    repeat apply Exists.intro
    refine ⟨rfl, ?_⟩
    rw [need_iff, need_iff]
    refine ⟨nf, kf, ?_⟩
    try rw [rf]
    repeat apply Exists.intro
    refine ⟨rfl, ?_⟩
    rw [br_iff]
    exact ⟨fun g => by simp only [br_iff, need_iff, andB_t, andB_f, orB_t, orB_f, notB_t, notB_f, leI_t, leI_f, ltI_t, ltI_f, eqI_t, eqI_f, leN_t, leN_f, eqN_t, eqN_f, eqS_t, eqS_f, eqB_t, eqB_f, catOk_t, leC_t] at g; exact absurd rfl g, fun _ => ⟨by trivial, m - 1, by omega, k + 1, by rw [addI_i64 (by omega) (by omega)]; rfl, by omega⟩⟩
  · exact h.elim
theorem sw_con {n : Nat} (hn : 2 ≤ n) : ConOk (evalF Tryd.prog cfgN n) 33 sameWinCon := by
  intro vs bs K h
  unfold sameWinCon at h
  split at h
  · obtain ⟨l, rfl, rfl, hb, rfl, rfl, rfl, rfl, rfl, rfl, rfl, hK⟩ := h
    refine run_of (lp := lpOf []) (by omega) (ct := ctOf [(17, sameLineCon)]) (fun k hk => ctOf_ok (ctOf_cons (sl_con (by omega)) (ctOf_nil _))) ?_
    rw [sw_vc]
    have ei : ∀ a : Int, eqI a a = true := fun a => by simp [eqI]
    have es : ∀ a : List UInt8, eqS a a = true := fun a => by simp [eqS, strEq]
    have eb : ∀ a : Bool, eqB a a = true := fun a => by simp [eqB]
    simp only [ei, es, eb, br_tt]
    exact ⟨l, rfl, rfl, hb, trivial, trivial, hK⟩
  · exact h.elim
theorem ss_con {n : Nat} (hn : 3 ≤ n) : ConOk (evalF Tryd.prog cfgN n) 13 sameCon := by
  intro vs bs K h
  unfold sameCon at h
  split at h
  · obtain ⟨l, rfl, rfl, hb, rfl, rfl, hK⟩ := h
    have hlen := hb.1
    refine run_of (lp := lpOf [(4, ssL fun _ _ x m => ∃ k : Nat, x = ⟨(k : Int)⟩ ∧ k + m = l.length)]) (by omega) (ct := ctOf [(33, sameWinCon)]) (fun k hk => ctOf_ok (ctOf_cons (sw_con (by omega)) (ctOf_nil _))) ?_
    rw [ss_vc]
    simp only [windowV_lenL]
    rw [br_iff]; refine ⟨fun g => by simp only [br_iff, need_iff, andB_t, andB_f, orB_t, orB_f, notB_t, notB_f, leI_t, leI_f, ltI_t, ltI_f, eqI_t, eqI_f, leN_t, leN_f, eqN_t, eqN_f, eqS_t, eqS_f, eqB_t, eqB_f, catOk_t, leC_t] at g; exact absurd rfl g, fun _ => ?_⟩
    rw [br_iff]; refine ⟨fun g => by simp only [br_iff, need_iff, andB_t, andB_f, orB_t, orB_f, notB_t, notB_f, leI_t, leI_f, ltI_t, ltI_f, eqI_t, eqI_f, leN_t, leN_f, eqN_t, eqN_f, eqS_t, eqS_f, eqB_t, eqB_f, catOk_t, leC_t] at g; exact absurd rfl g, fun _ => ?_⟩
    rw [br_iff]; refine ⟨fun g => by simp only [br_iff, need_iff, andB_t, andB_f, orB_t, orB_f, notB_t, notB_f, leI_t, leI_f, ltI_t, ltI_f, eqI_t, eqI_f, leN_t, leN_f, eqN_t, eqN_f, eqS_t, eqS_f, eqB_t, eqB_f, catOk_t, leC_t] at g; exact absurd rfl g, fun _ => ⟨⟨l.length, by omega, 0, rfl, by omega⟩, ?_⟩⟩
    rintro _ m ⟨k, rfl, hk⟩
    dsimp only
    rw [br_iff]
    refine ⟨fun hlt => ?_, fun hge => hK⟩
    have hlt : k < l.length := by simp only [br_iff, need_iff, andB_t, andB_f, orB_t, orB_f, notB_t, notB_f, leI_t, leI_f, ltI_t, ltI_f, eqI_t, eqI_f, leN_t, leN_f, eqN_t, eqN_f, eqS_t, eqS_f, eqB_t, eqB_f, catOk_t, leC_t] at hlt; omega
    have gf : l[k]? = some l[k] := List.getElem?_eq_getElem hlt
    generalize l[k] = f at gf
    have rf := windowV_row gf
    have kf : okRow (windowV l) (Int.toNat (k : Int)) 8 = true := by simpa using windowV_ok (l := l) (i := k) hlt
    have nf : andB (leI 0 (k : Int)) (ltI (k : Int) (l.length : Int)) = true := by simp only [br_iff, need_iff, andB_t, andB_f, orB_t, orB_f, notB_t, notB_f, leI_t, leI_f, ltI_t, ltI_f, eqI_t, eqI_f, leN_t, leN_f, eqN_t, eqN_f, eqS_t, eqS_f, eqB_t, eqB_f, catOk_t, leC_t]; omega
    have hm := hb.2 f (List.mem_of_getElem? gf)
    rw [need_iff, need_iff]
    refine ⟨nf, kf, ?_⟩
    try rw [rf]
    repeat apply Exists.intro
    refine ⟨rfl, ?_⟩
    rw [need_iff, need_iff]
    refine ⟨nf, kf, ?_⟩
    try rw [rf]
    repeat apply Exists.intro
    refine ⟨rfl, ?_⟩
    exact ⟨f.line.ready, rfl, rfl, hm.1, rfl, rfl, rfl, rfl, rfl, rfl, rfl, by trivial, m - 1, by omega, k + 1, by rw [addI_i64 (by omega) (by omega)]; rfl, by omega⟩
  · exact h.elim
def foB (l : List Window) (f : Int) (k : Nat) : Bool := decide (f = 0) || (l.take k).any fun x => decide (x.id = f) && !x.gone
theorem foB_step {l : List Window} {f : Int} {k : Nat} {x : Window} (h : l[k]? = some x) : foB l f (k + 1) = (foB l f k || (decide (x.id = f) && !x.gone)) := by
  obtain ⟨hk, rfl⟩ := List.getElem?_eq_some_iff.1 h
  unfold foB
  rw [List.take_succ_eq_append_getElem hk, List.any_append, List.any_cons, List.any_nil, Bool.or_false, Bool.or_assoc]
theorem any_seen {l : List Window} (h : l.Pairwise (fun a b => a.id < b.id)) (f : Int) : (l.any fun x => decide (x.id = f) && !x.gone) = seenW l f := by
  rw [Bool.eq_iff_iff, List.any_eq_true]
  constructor
  · rintro ⟨x, hx, hp⟩
    simp only [Bool.and_eq_true, decide_eq_true_eq, Bool.not_eq_true'] at hp
    obtain ⟨i, hi⟩ := List.mem_iff_getElem?.1 hx
    rw [← hp.1, seenW_asc h hi, hp.2]; rfl
  · intro hs
    obtain ⟨i, x, h1, h2, h3, h4, h5⟩ := seenW_found hs
    exact ⟨x, List.mem_of_getElem? h2, by simp [h4, h5]⟩
theorem rr_con {n : Nat} (hn : 3 ≤ n) : ConOk (evalF Tryd.prog cfgN n) 11 rightCon := by
  intro vs bs K h
  unfold rightCon at h
  split at h
  · rename_i nx f0 xs
    obtain ⟨l, rfl, hb, hK⟩ := h
    have hlen := hb.1
    refine run_of (lp := lpOf [(5, rrL fun _ _ x m => ∃ k : Nat, x = ⟨prevId l k, foB l f0 k, (k : Int)⟩ ∧ k + m = l.length ∧ goodI nx l k)]) (by omega) (ct := ctOf [(31, rgCon)])
      (fun k hk => ctOf_ok (ctOf_cons (rrg_con (by omega)) (ctOf_nil _))) ?_
    rw [rr_vc]
    have no : rightW ⟨nx, f0, l⟩ = false → K (.bool false) [] := fun h => by rw [h] at hK; exact hK
    simp only [windowV_lenL]
    rw [br_iff]; refine ⟨fun q => no ?_, fun q1 => ?_⟩
    · simp only [br_iff, need_iff, andB_t, andB_f, orB_t, orB_f, notB_t, notB_f, leI_t, leI_f, ltI_t, ltI_f, eqI_t, eqI_f, leN_t, leN_f, eqN_t, eqN_f, eqS_t, eqS_f, eqB_t, eqB_f, catOk_t, leC_t] at q
      unfold rightW; rw [decide_eq_false (p := 1 ≤ nx) (by omega)]; simp
    rw [br_iff]; refine ⟨fun q => no ?_, fun q2 => ?_⟩
    · simp only [br_iff, need_iff, andB_t, andB_f, orB_t, orB_f, notB_t, notB_f, leI_t, leI_f, ltI_t, ltI_f, eqI_t, eqI_f, leN_t, leN_f, eqN_t, eqN_f, eqS_t, eqS_f, eqB_t, eqB_f, catOk_t, leC_t] at q
      unfold rightW; rw [decide_eq_false (p := nx ≤ 1048576) (by omega)]; simp
    rw [br_iff]; refine ⟨fun q => no ?_, fun q3 => ⟨⟨l.length, by omega, 0, ?_, by omega, rfl, Int.le_refl 0⟩, ?_⟩⟩
    · simp only [br_iff, need_iff, andB_t, andB_f, orB_t, orB_f, notB_t, notB_f, leI_t, leI_f, ltI_t, ltI_f, eqI_t, eqI_f, leN_t, leN_f, eqN_t, eqN_f, eqS_t, eqS_f, eqB_t, eqB_f, catOk_t, leC_t] at q
      unfold rightW; rw [decide_eq_false (p := l.length ≤ 16) (by omega)]; simp
    · unfold foB; simp; exact ⟨rfl, rfl⟩
    simp only [br_iff, need_iff, andB_t, andB_f, orB_t, orB_f, notB_t, notB_f, leI_t, leI_f, ltI_t, ltI_f, eqI_t, eqI_f, leN_t, leN_f, eqN_t, eqN_f, eqS_t, eqS_f, eqB_t, eqB_f, catOk_t, leC_t] at q1 q2 q3
    rintro _ m ⟨k, rfl, hk, hp⟩
    dsimp only
    rw [br_iff]
    refine ⟨fun hlt => ?_, fun hge => ?_⟩
    · have hlt : k < l.length := by simp only [br_iff, need_iff, andB_t, andB_f, orB_t, orB_f, notB_t, notB_f, leI_t, leI_f, ltI_t, ltI_f, eqI_t, eqI_f, leN_t, leN_f, eqN_t, eqN_f, eqS_t, eqS_f, eqB_t, eqB_f, catOk_t, leC_t] at hlt; omega
      have gf : l[k]? = some l[k] := List.getElem?_eq_getElem hlt
      generalize l[k] = f at gf
      have rf := windowV_row gf
      have kf : okRow (windowV l) (Int.toNat (k : Int)) 8 = true := by simpa using windowV_ok (l := l) (i := k) hlt
      have nf : andB (leI 0 (k : Int)) (ltI (k : Int) (l.length : Int)) = true := by simp only [br_iff, need_iff, andB_t, andB_f, orB_t, orB_f, notB_t, notB_f, leI_t, leI_f, ltI_t, ltI_f, eqI_t, eqI_f, leN_t, leN_f, eqN_t, eqN_f, eqS_t, eqS_f, eqB_t, eqB_f, catOk_t, leC_t]; omega
      have hm := hb.2 f (List.mem_of_getElem? gf)
      rw [need_iff, need_iff]
      refine ⟨nf, kf, ?_⟩
      try rw [rf]
      repeat apply Exists.intro
      refine ⟨rfl, ?_⟩
      have hp0 := hp.2
      have ns : soundW f = false → K (.bool false) [] := fun h => no (good_no hp gf (.inr (.inr h)))
      rw [br_iff]; refine ⟨fun q => no (good_no hp gf (.inl (by simpa only [br_iff, need_iff, andB_t, andB_f, orB_t, orB_f, notB_t, notB_f, leI_t, leI_f, ltI_t, ltI_f, eqI_t, eqI_f, leN_t, leN_f, eqN_t, eqN_f, eqS_t, eqS_f, eqB_t, eqB_f, catOk_t, leC_t] using q))), fun g1 => ?_⟩
      rw [br_iff]; refine ⟨fun q => no (good_no hp gf (.inr (.inl (by simpa only [br_iff, need_iff, andB_t, andB_f, orB_t, orB_f, notB_t, notB_f, leI_t, leI_f, ltI_t, ltI_f, eqI_t, eqI_f, leN_t, leN_f, eqN_t, eqN_f, eqS_t, eqS_f, eqB_t, eqB_f, catOk_t, leC_t] using q)))), fun g2 => ?_⟩
      simp only [br_iff, need_iff, andB_t, andB_f, orB_t, orB_f, notB_t, notB_f, leI_t, leI_f, ltI_t, ltI_f, eqI_t, eqI_f, leN_t, leN_f, eqN_t, eqN_f, eqS_t, eqS_f, eqB_t, eqB_f, catOk_t, leC_t] at g1 g2
      rw [br_iff]; refine ⟨fun q => ns (by simp only [br_iff, need_iff, andB_t, andB_f, orB_t, orB_f, notB_t, notB_f, leI_t, leI_f, ltI_t, ltI_f, eqI_t, eqI_f, leN_t, leN_f, eqN_t, eqN_f, eqS_t, eqS_f, eqB_t, eqB_f, catOk_t, leC_t, lenS] at q; unfold soundW; rw [decide_eq_false (by omega)]; simp), fun g3 => ⟨f.line.ready, rfl, hm.1, hm.2, ?_⟩⟩
      rw [show (⟨f.line.raw, f.line.text, f.line.ready⟩ : Line) = f.line from rfl]
      rw [br_iff]; refine ⟨fun q => ns (by simp only [notB, Bool.not_eq_true'] at q; unfold soundW; rw [q]; simp), fun g4 => ?_⟩
      rw [br_iff]; refine ⟨fun q => ns (by simp only [br_iff, need_iff, andB_t, andB_f, orB_t, orB_f, notB_t, notB_f, leI_t, leI_f, ltI_t, ltI_f, eqI_t, eqI_f, leN_t, leN_f, eqN_t, eqN_f, eqS_t, eqS_f, eqB_t, eqB_f, catOk_t, leC_t, lenS] at q; unfold soundW; rw [decide_eq_false (p := f.text.length ≤ 65536) (by omega)]; simp), fun g5 => ?_⟩
      rw [br_iff]; refine ⟨fun q => ns (by simp only [br_iff, need_iff, andB_t, andB_f, orB_t, orB_f, notB_t, notB_f, leI_t, leI_f, ltI_t, ltI_f, eqI_t, eqI_f, leN_t, leN_f, eqN_t, eqN_f, eqS_t, eqS_f, eqB_t, eqB_f, catOk_t, leC_t] at q; unfold soundW; rw [decide_eq_false (p := 0 ≤ f.opens) (by omega)]; simp), fun g6 => ?_⟩
      rw [br_iff]; refine ⟨fun q => ns (by simp only [br_iff, need_iff, andB_t, andB_f, orB_t, orB_f, notB_t, notB_f, leI_t, leI_f, ltI_t, ltI_f, eqI_t, eqI_f, leN_t, leN_f, eqN_t, eqN_f, eqS_t, eqS_f, eqB_t, eqB_f, catOk_t, leC_t] at q; unfold soundW; rw [decide_eq_false (p := f.opens ≤ 9007199254740991) (by omega)]; simp), fun g7 => ?_⟩
      have rest : (f.gone && decide (f.opens = 0)) = false → rr_vc_1 nx f0 (windowV l) (fun _ _ x m => ∃ k : Nat, x = ⟨prevId l k, foB l f0 k, (k : Int)⟩ ∧ k + m = l.length ∧ goodI nx l k) K ⟨prevId l k, foB l f0 k, (k : Int)⟩ m f.id f.gone := by
        intro g8
        simp only [br_iff, need_iff, andB_t, andB_f, orB_t, orB_f, notB_t, notB_f, leI_t, leI_f, ltI_t, ltI_f, eqI_t, eqI_f, leN_t, leN_f, eqN_t, eqN_f, eqS_t, eqS_f, eqB_t, eqB_f, catOk_t, leC_t, lenS] at g3 g5 g6 g7
        simp only [notB, Bool.not_eq_false'] at g4
        have hsnd : soundW f = true := by
          unfold soundW
          rw [g8, g4, decide_eq_true (p := f.label.length ≤ 64) (by omega), decide_eq_true (p := f.text.length ≤ 65536) (by omega), decide_eq_true (p := 0 ≤ f.opens) (by omega), decide_eq_true (p := f.opens ≤ 9007199254740991) (by omega)]
          rfl
        have hnext := good_step hp gf g1 g2 hsnd
        have ek : addI .i64 (k : Int) 1 = ((k + 1 : Nat) : Int) := by rw [addI_i64 (by omega) (by omega)]; rfl
        have hfo := foB_step (f := f0) gf
        unfold rr_vc_1
        dsimp only
        rw [ek, br_iff]; refine ⟨fun w => ⟨by trivial, m - 1, by omega, k + 1, by rw [prevId_succ gf, hfo, w]; rfl, by omega, hnext⟩, fun w => ?_⟩
        rw [br_iff]; refine ⟨fun w2 => ⟨by trivial, m - 1, by omega, k + 1, by rw [prevId_succ gf, hfo, w, decide_eq_true (by simpa only [br_iff, need_iff, andB_t, andB_f, orB_t, orB_f, notB_t, notB_f, leI_t, leI_f, ltI_t, ltI_f, eqI_t, eqI_f, leN_t, leN_f, eqN_t, eqN_f, eqS_t, eqS_f, eqB_t, eqB_f, catOk_t, leC_t] using w2)]; rfl, by omega, hnext⟩, fun w2 => ⟨by trivial, m - 1, by omega, k + 1, by rw [prevId_succ gf, hfo, w, decide_eq_false (by simpa only [br_iff, need_iff, andB_t, andB_f, orB_t, orB_f, notB_t, notB_f, leI_t, leI_f, ltI_t, ltI_f, eqI_t, eqI_f, leN_t, leN_f, eqN_t, eqN_f, eqS_t, eqS_f, eqB_t, eqB_f, catOk_t, leC_t] using w2)]; rfl, by omega, hnext⟩⟩
      rw [br_iff]; refine ⟨fun w => ?_, fun w => rest (by rw [w]; rfl)⟩
      rw [br_iff]; refine ⟨fun q => ns ?_, fun q => rest (by rw [w, decide_eq_false (by simpa only [br_iff, need_iff, andB_t, andB_f, orB_t, orB_f, notB_t, notB_f, leI_t, leI_f, ltI_t, ltI_f, eqI_t, eqI_f, leN_t, leN_f, eqN_t, eqN_f, eqS_t, eqS_f, eqB_t, eqB_f, catOk_t, leC_t] using q)]; rfl)⟩
      unfold soundW
      rw [w, decide_eq_true (p := f.opens = 0) (by simpa only [br_iff, need_iff, andB_t, andB_f, orB_t, orB_f, notB_t, notB_f, leI_t, leI_f, ltI_t, ltI_f, eqI_t, eqI_f, leN_t, leN_f, eqN_t, eqN_f, eqS_t, eqS_f, eqB_t, eqB_f, catOk_t, leC_t] using q)]; simp
    · have : k = l.length := by simp only [br_iff, need_iff, andB_t, andB_f, orB_t, orB_f, notB_t, notB_f, leI_t, leI_f, ltI_t, ltI_f, eqI_t, eqI_f, leN_t, leN_f, eqN_t, eqN_f, eqS_t, eqS_f, eqB_t, eqB_f, catOk_t, leC_t] at hge; omega
      subst this
      rw [right_end (f0 := f0) q1 q2 (by omega) hp] at hK
      have hg : goodF nx 0 l = true := by rw [← hp.1, List.drop_length]; rfl
      have hasc := (goodF_iff.1 hg).2
      unfold foB
      rw [List.take_length, any_seen hasc]
      exact hK
  · exact h.elim
theorem ra_con {n : Nat} (hn : 1 ≤ n) : ConOk (evalF Tryd.prog cfgN n) 64 idxCon := by
  intro vs bs K h
  unfold idxCon at h
  split at h
  · rename_i nx f0 xs s
    obtain ⟨l, rfl, hb, hK⟩ := h
    refine run_of (lp := lpOf [(2, raL fun _ _ x m => atI l s x.i m)]) (by omega) (fun k hk => noCt_ok _) ?_
    rw [ra_vc]
    simp only [windowV_lenL]
    refine ⟨⟨l.length, by omega, 0, rfl, by omega, fun j g hj => by omega⟩, ?_⟩
    rintro ⟨i⟩ m ⟨k, rfl, hk, hp⟩
    dsimp only
    rw [br_iff]
    refine ⟨fun hlt => ?_, fun hge => ?_⟩
    · have hlt : k < l.length := by simp only [br_iff, need_iff, andB_t, andB_f, orB_t, orB_f, notB_t, notB_f, leI_t, leI_f, ltI_t, ltI_f, eqI_t, eqI_f, leN_t, leN_f, eqN_t, eqN_f, eqS_t, eqS_f, eqB_t, eqB_f, catOk_t, leC_t] at hlt; omega
      have gf : l[k]? = some l[k] := List.getElem?_eq_getElem hlt
      generalize l[k] = f at gf
      have rf := windowV_row gf
      have kf : okRow (windowV l) (Int.toNat (k : Int)) 8 = true := by simpa using windowV_ok (l := l) (i := k) hlt
      have nf : andB (leI 0 (k : Int)) (ltI (k : Int) (l.length : Int)) = true := by simp only [br_iff, need_iff, andB_t, andB_f, orB_t, orB_f, notB_t, notB_f, leI_t, leI_f, ltI_t, ltI_f, eqI_t, eqI_f, leN_t, leN_f, eqN_t, eqN_f, eqS_t, eqS_f, eqB_t, eqB_f, catOk_t, leC_t]; omega
      rw [need_iff, need_iff]
      refine ⟨nf, kf, ?_⟩
      try rw [rf]
      repeat apply Exists.intro
      refine ⟨rfl, ?_⟩
      rw [br_iff]
      refine ⟨fun g => ?_, fun g => ⟨by trivial, m - 1, by omega, k + 1, by rw [addI_i64 (by omega) (by omega)]; omega, by omega, at_next hp gf (by simp only [br_iff, need_iff, andB_t, andB_f, orB_t, orB_f, notB_t, notB_f, leI_t, leI_f, ltI_t, ltI_f, eqI_t, eqI_f, leN_t, leN_f, eqN_t, eqN_f, eqS_t, eqS_f, eqB_t, eqB_f, catOk_t, leC_t] at g; exact g)⟩⟩
      simp only [br_iff, need_iff, andB_t, andB_f, orB_t, orB_f, notB_t, notB_f, leI_t, leI_f, ltI_t, ltI_f, eqI_t, eqI_f, leN_t, leN_f, eqN_t, eqN_f, eqS_t, eqS_f, eqB_t, eqB_f, catOk_t, leC_t] at g
      rw [idxW_at gf g hp] at hK; exact hK
    · have : k = l.length := by simp only [br_iff, need_iff, andB_t, andB_f, orB_t, orB_f, notB_t, notB_f, leI_t, leI_f, ltI_t, ltI_f, eqI_t, eqI_f, leN_t, leN_f, eqN_t, eqN_f, eqS_t, eqS_f, eqB_t, eqB_f, catOk_t, leC_t] at hge; omega
      subst this
      rw [at_end hp] at hK; exact hK
  · exact h.elim
theorem rs_con {n : Nat} (hn : 2 ≤ n) : ConOk (evalF Tryd.prog cfgN n) 63 seenCon := by
  intro vs bs K h
  unfold seenCon at h
  split at h
  · rename_i nx f0 xs id
    obtain ⟨l, rfl, hb, hK⟩ := h
    refine run_of (lp := lpOf []) (by omega) (ct := ctOf [(64, idxCon)]) (fun k hk => ctOf_ok (ctOf_cons (ra_con (by omega)) (ctOf_nil _))) ?_
    rw [rs_vc]
    refine ⟨l, rfl, hb, ?_⟩
    unfold seenW at hK
    rw [br_iff]; refine ⟨fun w => ?_, fun w => ?_⟩
    · have w : 0 ≤ idxW l id := by simpa only [br_iff, need_iff, andB_t, andB_f, orB_t, orB_f, notB_t, notB_f, leI_t, leI_f, ltI_t, ltI_f, eqI_t, eqI_f, leN_t, leN_f, eqN_t, eqN_f, eqS_t, eqS_f, eqB_t, eqB_f, catOk_t, leC_t] using w
      rw [decide_eq_true w, Bool.true_and] at hK
      obtain ⟨i, x, e1, e2, e3, e4, e5⟩ := idxW_found w
      rw [e1] at hK ⊢
      rw [e5] at hK
      rw [ndL e3, need_tt, kdL e3, need_tt]
      exact ⟨x.gone, by rw [windowV_row e2]; rfl, hK⟩
    · have w : ¬ 0 ≤ idxW l id := by simp only [br_iff, need_iff, andB_t, andB_f, orB_t, orB_f, notB_t, notB_f, leI_t, leI_f, ltI_t, ltI_f, eqI_t, eqI_f, leN_t, leN_f, eqN_t, eqN_f, eqS_t, eqS_f, eqB_t, eqB_f, catOk_t, leC_t] at w; omega
      rw [decide_eq_false w] at hK; exact hK
  · exact h.elim
theorem exB_eq {l : List Window} {id : Int} (h : 16 ≤ id) : exB l id = if 6 ≤ id % 16 then false else if id % 16 = 0 then seenW l (id / 16) else decide (0 ≤ idxW l (id / 16)) := by
  unfold exB fileF modI divI
  rw [if_neg (by omega), if_neg (by omega), if_neg (by omega)]
  have hge := idxW_ge l (id / 16)
  by_cases h1 : 6 ≤ id % 16
  · rw [if_pos (.inr (.inl h1)), if_pos h1]; rfl
  · rw [if_neg h1]
    by_cases h2 : id % 16 = 0
    · rw [if_pos h2, if_pos h2]
      unfold seenW
      by_cases h3 : idxW l (id / 16) < 0
      · rw [if_pos (.inl h3), decide_eq_false (by omega)]; rfl
      · rw [decide_eq_true (by omega)]
        cases hg : (wAt l (idxW l (id / 16))).gone with
        | true => rw [if_pos (.inr (.inr ⟨h2, rfl⟩))]; rfl
        | false => rw [if_neg (by rintro (h | h | h); exact h3 h; exact h1 h; cases h.2)]; rfl
    · rw [if_neg h2, if_neg h2]
      by_cases h3 : idxW l (id / 16) < 0
      · rw [if_pos (.inl h3), decide_eq_false (by omega)]; rfl
      · rw [if_neg (by rintro (h | h | h); exact h3 h; exact h1 h; exact h2 h.1), decide_eq_true (by omega)]; rfl
theorem rx_con {n : Nat} (hn : 3 ≤ n) : ConOk (evalF Tryd.prog cfgN n) 42 exCon := by
  intro vs bs K h
  unfold exCon at h
  split at h
  · rename_i nx f0 xs id
    obtain ⟨l, rfl, hb, hid, hK⟩ := h
    refine run_of (lp := lpOf []) (by omega) (ct := ctOf [(64, idxCon), (63, seenCon)]) (fun k hk => ctOf_ok (ctOf_cons (ra_con (by omega)) (ctOf_cons (rs_con (by omega)) (ctOf_nil _)))) ?_
    rw [rx_vc]
    rw [br_iff]; refine ⟨fun g => ?_, fun g1 => ?_⟩
    · have e : exB l id = true := by unfold exB fileF; rw [if_pos (by simpa only [br_iff, need_iff, andB_t, andB_f, orB_t, orB_f, notB_t, notB_f, leI_t, leI_f, ltI_t, ltI_f, eqI_t, eqI_f, leN_t, leN_f, eqN_t, eqN_f, eqS_t, eqS_f, eqB_t, eqB_f, catOk_t, leC_t] using g)]; rfl
      rw [e] at hK; exact hK
    rw [br_iff]; refine ⟨fun g => ?_, fun g2 => ?_⟩
    · have e : exB l id = true := by unfold exB fileF; rw [if_neg (by simpa only [br_iff, need_iff, andB_t, andB_f, orB_t, orB_f, notB_t, notB_f, leI_t, leI_f, ltI_t, ltI_f, eqI_t, eqI_f, leN_t, leN_f, eqN_t, eqN_f, eqS_t, eqS_f, eqB_t, eqB_f, catOk_t, leC_t] using g1), if_pos (by simpa only [br_iff, need_iff, andB_t, andB_f, orB_t, orB_f, notB_t, notB_f, leI_t, leI_f, ltI_t, ltI_f, eqI_t, eqI_f, leN_t, leN_f, eqN_t, eqN_f, eqS_t, eqS_f, eqB_t, eqB_f, catOk_t, leC_t] using g)]; rfl
      rw [e] at hK; exact hK
    rw [br_iff]; refine ⟨fun g => ?_, fun g3 => ?_⟩
    · have e : exB l id = false := by unfold exB fileF; rw [if_neg (by simpa only [br_iff, need_iff, andB_t, andB_f, orB_t, orB_f, notB_t, notB_f, leI_t, leI_f, ltI_t, ltI_f, eqI_t, eqI_f, leN_t, leN_f, eqN_t, eqN_f, eqS_t, eqS_f, eqB_t, eqB_f, catOk_t, leC_t] using g1), if_neg (by simpa only [br_iff, need_iff, andB_t, andB_f, orB_t, orB_f, notB_t, notB_f, leI_t, leI_f, ltI_t, ltI_f, eqI_t, eqI_f, leN_t, leN_f, eqN_t, eqN_f, eqS_t, eqS_f, eqB_t, eqB_f, catOk_t, leC_t] using g2), if_pos (by simpa only [br_iff, need_iff, andB_t, andB_f, orB_t, orB_f, notB_t, notB_f, leI_t, leI_f, ltI_t, ltI_f, eqI_t, eqI_f, leN_t, leN_f, eqN_t, eqN_f, eqS_t, eqS_f, eqB_t, eqB_f, catOk_t, leC_t] using g)]; rfl
      rw [e] at hK; exact hK
    have g3 : 16 ≤ id := by simpa only [br_iff, need_iff, andB_t, andB_f, orB_t, orB_f, notB_t, notB_f, leI_t, leI_f, ltI_t, ltI_f, eqI_t, eqI_f, leN_t, leN_f, eqN_t, eqN_f, eqS_t, eqS_f, eqB_t, eqB_f, catOk_t, leC_t] using g3
    have e1 : quoI .i64 id 16 = id / 16 := quoI_i64 (by omega) hid (by omega)
    have e2 : id.tmod 16 = id % 16 := tmod_pos (by omega)
    rw [e1, e2]
    rw [exB_eq g3] at hK
    rw [br_iff]; refine ⟨fun g => by rw [if_pos (by simp only [br_iff, need_iff, andB_t, andB_f, orB_t, orB_f, notB_t, notB_f, leI_t, leI_f, ltI_t, ltI_f, eqI_t, eqI_f, leN_t, leN_f, eqN_t, eqN_f, eqS_t, eqS_f, eqB_t, eqB_f, catOk_t, leC_t] at g; omega)] at hK; exact hK, fun g4 => ?_⟩
    rw [if_neg (by simp only [br_iff, need_iff, andB_t, andB_f, orB_t, orB_f, notB_t, notB_f, leI_t, leI_f, ltI_t, ltI_f, eqI_t, eqI_f, leN_t, leN_f, eqN_t, eqN_f, eqS_t, eqS_f, eqB_t, eqB_f, catOk_t, leC_t] at g4; omega)] at hK
    rw [br_iff]; refine ⟨fun g => ⟨l, rfl, hb, by rw [if_pos (by simpa only [br_iff, need_iff, andB_t, andB_f, orB_t, orB_f, notB_t, notB_f, leI_t, leI_f, ltI_t, ltI_f, eqI_t, eqI_f, leN_t, leN_f, eqN_t, eqN_f, eqS_t, eqS_f, eqB_t, eqB_f, catOk_t, leC_t] using g)] at hK; exact hK⟩, fun g => ⟨l, rfl, hb, by rw [if_neg (by simpa only [br_iff, need_iff, andB_t, andB_f, orB_t, orB_f, notB_t, notB_f, leI_t, leI_f, ltI_t, ltI_f, eqI_t, eqI_f, leN_t, leN_f, eqN_t, eqN_f, eqS_t, eqS_f, eqB_t, eqB_f, catOk_t, leC_t] using g)] at hK; exact hK⟩⟩
  · exact h.elim
theorem rd2_con {n : Nat} (hn : 1 ≤ n) : ConOk (evalF Tryd.prog cfgN n) 43 dirCon := by
  intro vs bs K h
  unfold dirCon at h
  split at h
  · rename_i id
    refine run_of (lp := lpOf []) hn (fun k _ => noCt_ok _) ?_
    rw [rd2_vc]
    unfold dirB at h
    rw [br_iff]; refine ⟨fun g => by rw [decide_eq_true (by simpa only [br_iff, need_iff, andB_t, andB_f, orB_t, orB_f, notB_t, notB_f, leI_t, leI_f, ltI_t, ltI_f, eqI_t, eqI_f, leN_t, leN_f, eqN_t, eqN_f, eqS_t, eqS_f, eqB_t, eqB_f, catOk_t, leC_t] using g)] at h; exact h, fun g => ?_⟩
    rw [decide_eq_false (by simpa only [br_iff, need_iff, andB_t, andB_f, orB_t, orB_f, notB_t, notB_f, leI_t, leI_f, ltI_t, ltI_f, eqI_t, eqI_f, leN_t, leN_f, eqN_t, eqN_f, eqS_t, eqS_f, eqB_t, eqB_f, catOk_t, leC_t] using g), Bool.false_or] at h
    rw [br_iff]; refine ⟨fun g2 => ?_, fun g2 => by rw [decide_eq_false (by simp only [br_iff, need_iff, andB_t, andB_f, orB_t, orB_f, notB_t, notB_f, leI_t, leI_f, ltI_t, ltI_f, eqI_t, eqI_f, leN_t, leN_f, eqN_t, eqN_f, eqS_t, eqS_f, eqB_t, eqB_f, catOk_t, leC_t] at g2; omega)] at h; exact h⟩
    have g2 : 16 ≤ id := by simpa only [br_iff, need_iff, andB_t, andB_f, orB_t, orB_f, notB_t, notB_f, leI_t, leI_f, ltI_t, ltI_f, eqI_t, eqI_f, leN_t, leN_f, eqN_t, eqN_f, eqS_t, eqS_f, eqB_t, eqB_f, catOk_t, leC_t] using g2
    rw [decide_eq_true g2, Bool.true_and] at h
    rw [tmod_pos (by omega)]
    exact h
  · exact h.elim
theorem rm_con {n : Nat} (hn : 2 ≤ n) : ConOk (evalF Tryd.prog cfgN n) 46 modeCon := by
  intro vs bs K h
  unfold modeCon at h
  split at h
  · rename_i id
    obtain ⟨h0, h⟩ := h
    refine run_of (lp := lpOf []) (by omega) (ct := ctOf [(43, dirCon)]) (fun k hk => ctOf_ok (ctOf_cons (rd2_con (by omega)) (ctOf_nil _))) ?_
    rw [rm_vc, tmod_pos h0]
    unfold modeF at h
    rw [br_iff]; refine ⟨fun g => by rw [if_pos g] at h; exact h, fun g => ?_⟩
    rw [if_neg (by rw [g]; simp)] at h
    rw [br_iff]; refine ⟨fun g => by rw [if_pos (by simpa only [br_iff, need_iff, andB_t, andB_f, orB_t, orB_f, notB_t, notB_f, leI_t, leI_f, ltI_t, ltI_f, eqI_t, eqI_f, leN_t, leN_f, eqN_t, eqN_f, eqS_t, eqS_f, eqB_t, eqB_f, catOk_t, leC_t] using g)] at h; exact h, fun g => ?_⟩
    rw [if_neg (by simpa only [br_iff, need_iff, andB_t, andB_f, orB_t, orB_f, notB_t, notB_f, leI_t, leI_f, ltI_t, ltI_f, eqI_t, eqI_f, leN_t, leN_f, eqN_t, eqN_f, eqS_t, eqS_f, eqB_t, eqB_f, catOk_t, leC_t] using g)] at h
    unfold modeK at h
    rw [br_iff]; refine ⟨fun g => by rw [if_pos (by simpa only [br_iff, need_iff, andB_t, andB_f, orB_t, orB_f, notB_t, notB_f, leI_t, leI_f, ltI_t, ltI_f, eqI_t, eqI_f, leN_t, leN_f, eqN_t, eqN_f, eqS_t, eqS_f, eqB_t, eqB_f, catOk_t, leC_t] using g)] at h; exact h, fun g1 => ?_⟩
    rw [if_neg (by simpa only [br_iff, need_iff, andB_t, andB_f, orB_t, orB_f, notB_t, notB_f, leI_t, leI_f, ltI_t, ltI_f, eqI_t, eqI_f, leN_t, leN_f, eqN_t, eqN_f, eqS_t, eqS_f, eqB_t, eqB_f, catOk_t, leC_t] using g1)] at h
    rw [br_iff]; refine ⟨fun g => by have g : id % 16 = 3 := by simpa only [br_iff, need_iff, andB_t, andB_f, orB_t, orB_f, notB_t, notB_f, leI_t, leI_f, ltI_t, ltI_f, eqI_t, eqI_f, leN_t, leN_f, eqN_t, eqN_f, eqS_t, eqS_f, eqB_t, eqB_f, catOk_t, leC_t] using g
                                     rw [if_neg (by omega), if_pos g] at h; exact h, fun g3 => ?_⟩
    have g3 : ¬ id % 16 = 3 := by simpa only [br_iff, need_iff, andB_t, andB_f, orB_t, orB_f, notB_t, notB_f, leI_t, leI_f, ltI_t, ltI_f, eqI_t, eqI_f, leN_t, leN_f, eqN_t, eqN_f, eqS_t, eqS_f, eqB_t, eqB_f, catOk_t, leC_t] using g3
    rw [br_iff]; refine ⟨fun g => by have g : id % 16 = 4 := by simpa only [br_iff, need_iff, andB_t, andB_f, orB_t, orB_f, notB_t, notB_f, leI_t, leI_f, ltI_t, ltI_f, eqI_t, eqI_f, leN_t, leN_f, eqN_t, eqN_f, eqS_t, eqS_f, eqB_t, eqB_f, catOk_t, leC_t] using g
                                     rw [if_neg (by omega), if_neg g3, if_pos g] at h; exact h, fun g4 => ?_⟩
    have g4 : ¬ id % 16 = 4 := by simpa only [br_iff, need_iff, andB_t, andB_f, orB_t, orB_f, notB_t, notB_f, leI_t, leI_f, ltI_t, ltI_f, eqI_t, eqI_f, leN_t, leN_f, eqN_t, eqN_f, eqS_t, eqS_f, eqB_t, eqB_f, catOk_t, leC_t] using g4
    rw [if_neg g3, if_neg g4] at h
    split at h <;> exact h
  · exact h.elim
theorem did_con {n : Nat} (hn : 7 ≤ n) : ConOk (evalF Tryd.prog cfgN n) 16 didCon := by
  intro vs bs K h
  unfold didCon at h
  split at h
  · rename_i nx f0 xs k a m o c t
    obtain ⟨l, rfl, hRb, ha, hm1, hm2, ht, hK⟩ := h
    have hR := (rightW_iff _).1 hRb
    have hb := right_small hR
    have h0 := hR.next0
    have h1 := hR.next1
    dsimp only at h0 h1 hb
    refine run_of (lp := lpOf []) (by omega) (ct := ctOf [(12, makeCon), (18, focusCon), (14, wtypeCon), (26, openCon), (15, wreadCon), (27, writeCon), (28, closeCon)])
      (fun k hk => ctOf_ok (ctOf_cons (mk_con (by omega)) (ctOf_cons (fo_con (by omega)) (ctOf_cons (wt_con (by omega)) (ctOf_cons (op_con (by omega)) (ctOf_cons (re_con (by omega)) (ctOf_cons (wi_con (by omega)) (ctOf_cons (cs_con (by omega)) (ctOf_nil _))))))))) ?_
    rw [did_vc]
    unfold didF at hK
    dsimp only at hK
    rw [br_iff]; refine ⟨fun g => ⟨l, rfl, hb, ⟨by omega, by omega⟩, by simp only [if_pos (show k = 1 by simpa only [br_iff, need_iff, andB_t, andB_f, orB_t, orB_f, notB_t, notB_f, leI_t, leI_f, ltI_t, ltI_f, eqI_t, eqI_f, leN_t, leN_f, eqN_t, eqN_f, eqS_t, eqS_f, eqB_t, eqB_f, catOk_t, leC_t] using g)] at hK; exact hK⟩, fun g => ?_⟩
    simp only [if_neg (show ¬ k = 1 by simpa only [br_iff, need_iff, andB_t, andB_f, orB_t, orB_f, notB_t, notB_f, leI_t, leI_f, ltI_t, ltI_f, eqI_t, eqI_f, leN_t, leN_f, eqN_t, eqN_f, eqS_t, eqS_f, eqB_t, eqB_f, catOk_t, leC_t] using g)] at hK
    rw [br_iff]; refine ⟨fun g => ⟨l, rfl, hb, by simp only [if_pos (show k = 2 by simpa only [br_iff, need_iff, andB_t, andB_f, orB_t, orB_f, notB_t, notB_f, leI_t, leI_f, ltI_t, ltI_f, eqI_t, eqI_f, leN_t, leN_f, eqN_t, eqN_f, eqS_t, eqS_f, eqB_t, eqB_f, catOk_t, leC_t] using g)] at hK; exact hK⟩, fun g => ?_⟩
    simp only [if_neg (show ¬ k = 2 by simpa only [br_iff, need_iff, andB_t, andB_f, orB_t, orB_f, notB_t, notB_f, leI_t, leI_f, ltI_t, ltI_f, eqI_t, eqI_f, leN_t, leN_f, eqN_t, eqN_f, eqS_t, eqS_f, eqB_t, eqB_f, catOk_t, leC_t] using g)] at hK
    rw [br_iff]; refine ⟨fun g => ⟨l, rfl, hRb, ht, by simp only [if_pos (show k = 3 by simpa only [br_iff, need_iff, andB_t, andB_f, orB_t, orB_f, notB_t, notB_f, leI_t, leI_f, ltI_t, ltI_f, eqI_t, eqI_f, leN_t, leN_f, eqN_t, eqN_f, eqS_t, eqS_f, eqB_t, eqB_f, catOk_t, leC_t] using g)] at hK; exact hK⟩, fun g => ?_⟩
    simp only [if_neg (show ¬ k = 3 by simpa only [br_iff, need_iff, andB_t, andB_f, orB_t, orB_f, notB_t, notB_f, leI_t, leI_f, ltI_t, ltI_f, eqI_t, eqI_f, leN_t, leN_f, eqN_t, eqN_f, eqS_t, eqS_f, eqB_t, eqB_f, catOk_t, leC_t] using g)] at hK
    rw [br_iff]; refine ⟨fun g => ⟨l, rfl, hRb, ha, hm1, hm2, by simp only [if_pos (show k = 4 by simpa only [br_iff, need_iff, andB_t, andB_f, orB_t, orB_f, notB_t, notB_f, leI_t, leI_f, ltI_t, ltI_f, eqI_t, eqI_f, leN_t, leN_f, eqN_t, eqN_f, eqS_t, eqS_f, eqB_t, eqB_f, catOk_t, leC_t] using g)] at hK; exact hK⟩, fun g => ?_⟩
    simp only [if_neg (show ¬ k = 4 by simpa only [br_iff, need_iff, andB_t, andB_f, orB_t, orB_f, notB_t, notB_f, leI_t, leI_f, ltI_t, ltI_f, eqI_t, eqI_f, leN_t, leN_f, eqN_t, eqN_f, eqS_t, eqS_f, eqB_t, eqB_f, catOk_t, leC_t] using g)] at hK
    rw [br_iff]; refine ⟨fun g => ⟨l, rfl, hRb, ha, by simp only [if_pos (show k = 5 by simpa only [br_iff, need_iff, andB_t, andB_f, orB_t, orB_f, notB_t, notB_f, leI_t, leI_f, ltI_t, ltI_f, eqI_t, eqI_f, leN_t, leN_f, eqN_t, eqN_f, eqS_t, eqS_f, eqB_t, eqB_f, catOk_t, leC_t] using g)] at hK; exact hK⟩, fun g => ?_⟩
    simp only [if_neg (show ¬ k = 5 by simpa only [br_iff, need_iff, andB_t, andB_f, orB_t, orB_f, notB_t, notB_f, leI_t, leI_f, ltI_t, ltI_f, eqI_t, eqI_f, leN_t, leN_f, eqN_t, eqN_f, eqS_t, eqS_f, eqB_t, eqB_f, catOk_t, leC_t] using g)] at hK
    rw [br_iff]; refine ⟨fun g => ⟨l, rfl, hRb, ha, by omega, by simp only [if_pos (show k = 6 by simpa only [br_iff, need_iff, andB_t, andB_f, orB_t, orB_f, notB_t, notB_f, leI_t, leI_f, ltI_t, ltI_f, eqI_t, eqI_f, leN_t, leN_f, eqN_t, eqN_f, eqS_t, eqS_f, eqB_t, eqB_f, catOk_t, leC_t] using g)] at hK; exact hK⟩, fun g => ?_⟩
    simp only [if_neg (show ¬ k = 6 by simpa only [br_iff, need_iff, andB_t, andB_f, orB_t, orB_f, notB_t, notB_f, leI_t, leI_f, ltI_t, ltI_f, eqI_t, eqI_f, leN_t, leN_f, eqN_t, eqN_f, eqS_t, eqS_f, eqB_t, eqB_f, catOk_t, leC_t] using g)] at hK
    rw [br_iff]; refine ⟨fun g => ⟨l, rfl, hRb, ha, by simp only [if_pos (show k = 7 by simpa only [br_iff, need_iff, andB_t, andB_f, orB_t, orB_f, notB_t, notB_f, leI_t, leI_f, ltI_t, ltI_f, eqI_t, eqI_f, leN_t, leN_f, eqN_t, eqN_f, eqS_t, eqS_f, eqB_t, eqB_f, catOk_t, leC_t] using g)] at hK; exact hK⟩, fun g => ?_⟩
    simp only [if_neg (show ¬ k = 7 by simpa only [br_iff, need_iff, andB_t, andB_f, orB_t, orB_f, notB_t, notB_f, leI_t, leI_f, ltI_t, ltI_f, eqI_t, eqI_f, leN_t, leN_f, eqN_t, eqN_f, eqS_t, eqS_f, eqB_t, eqB_f, catOk_t, leC_t] using g)] at hK
    exact hK
  · exact h.elim
end Go.Proofs.YtdbbpibfejchfaaDoor
namespace Go.Proofs.YtdbbpibfejchfaaDoor
open Go.RowKit
set_option maxRecDepth 100000
set_option linter.unusedVariables false
set_option linter.unusedSimpArgs false
structure ltC where
  s : List UInt8
  n : Int
  f : Int
  xs : List (List V)
structure ltX where
  i : Int
def ltSt (c : ltC) (x : ltX) : St := ⟨[(1, .str c.s), (2, .ptr 0 0 0), (5, .int .i64 x.i)], [(0, ⟨true, true, true, [[.int .i64 c.n, .int .i64 c.f, .lst c.xs]], 0⟩)]⟩
set_option maxHeartbeats 4000000 in
def ltUn (s : St) : Option (ltC × ltX) :=
  match s with
  | ⟨[(q0, .str s), (q1, .ptr q2 q3 q4), (q5, .int .i64 i)], [(q6, ⟨true, true, true, [[.int .i64 n, .int .i64 f, .lst xs]], q7⟩)]⟩ => bif Nat.beq q0 1 && Nat.beq q1 2 && Nat.beq q2 0 && Nat.beq q3 0 && Nat.beq q4 0 && Nat.beq q5 5 && Nat.beq q6 0 && Nat.beq q7 0 then some (⟨s, n, f, xs⟩, ⟨i⟩) else none
  | _ => none
set_option maxHeartbeats 4000000 in
def ltL (inv : ltC → ltX → ltX → Nat → Prop) : LoopS where
  C := ltC
  X := ltX
  st := ltSt
  un := ltUn
  ok := by
    intro s c x h
    unfold ltUn at h
    split at h
    · simp only [Bool.cond_eq_ite] at h
      split at h
      · rename_i hg
        simp only [Bool.and_eq_true, Nat.beq_eq] at hg
        obtain ⟨⟨⟨⟨⟨⟨⟨rfl, rfl⟩, rfl⟩, rfl⟩, rfl⟩, rfl⟩, rfl⟩, rfl⟩ := hg
        cases h
        rfl
      · cases h
    · cases h
  inv := inv

structure laC where
  n : Int
  f : Int
  xs : List (List V)
  n2 : Int
  f2 : Int
  ys : List (List V)
  own : Int
  cnt : Int
structure laX where
  i : Int
def laSt (c : laC) (x : laX) : St := ⟨[(2, .ptr 0 0 0), (5, .ptr 1 0 0), (7, .int .i64 c.own), (58, .int .i64 c.cnt), (59, .int .i64 x.i)], [(0, ⟨true, true, true, [[.int .i64 c.n, .int .i64 c.f, .lst c.xs]], 0⟩), (1, ⟨true, true, true, [[.int .i64 c.n2, .int .i64 c.f2, .lst c.ys]], 0⟩)]⟩
set_option maxHeartbeats 4000000 in
def laUn (s : St) : Option (laC × laX) :=
  match s with
  | ⟨[(q0, .ptr q1 q2 q3), (q4, .ptr q5 q6 q7), (q8, .int .i64 own), (q9, .int .i64 cnt), (q10, .int .i64 i)], [(q11, ⟨true, true, true, [[.int .i64 n, .int .i64 f, .lst xs]], q12⟩), (q13, ⟨true, true, true, [[.int .i64 n2, .int .i64 f2, .lst ys]], q14⟩)]⟩ => bif Nat.beq q0 2 && Nat.beq q1 0 && Nat.beq q2 0 && Nat.beq q3 0 && Nat.beq q4 5 && Nat.beq q5 1 && Nat.beq q6 0 && Nat.beq q7 0 && Nat.beq q8 7 && Nat.beq q9 58 && Nat.beq q10 59 && Nat.beq q11 0 && Nat.beq q12 0 && Nat.beq q13 1 && Nat.beq q14 0 then some (⟨n, f, xs, n2, f2, ys, own, cnt⟩, ⟨i⟩) else none
  | _ => none
set_option maxHeartbeats 4000000 in
def laL (inv : laC → laX → laX → Nat → Prop) : LoopS where
  C := laC
  X := laX
  st := laSt
  un := laUn
  ok := by
    intro s c x h
    unfold laUn at h
    split at h
    · simp only [Bool.cond_eq_ite] at h
      split at h
      · rename_i hg
        simp only [Bool.and_eq_true, Nat.beq_eq] at hg
        obtain ⟨⟨⟨⟨⟨⟨⟨⟨⟨⟨⟨⟨⟨⟨rfl, rfl⟩, rfl⟩, rfl⟩, rfl⟩, rfl⟩, rfl⟩, rfl⟩, rfl⟩, rfl⟩, rfl⟩, rfl⟩, rfl⟩, rfl⟩, rfl⟩ := hg
        cases h
        rfl
      · cases h
    · cases h
  inv := inv

structure lkC where
  n : Int
  f : Int
  xs : List (List V)
  n2 : Int
  f2 : Int
  ys : List (List V)
  own : Int
  cnt : Int
  i : Int
  id : Int
  lb : List UInt8
  r : Bool
  t : List UInt8
  zs : List (List V)
  tx : List UInt8
  op : Int
  g : Bool
structure lkX where
  k : Int
def lkSt (c : lkC) (x : lkX) : St := ⟨[(2, .ptr 0 0 0), (5, .ptr 1 0 0), (7, .int .i64 c.own), (9, .ptr 2 0 0), (10, .int .i64 x.k), (58, .int .i64 c.cnt), (59, .int .i64 c.i)], [(0, ⟨true, true, true, [[.int .i64 c.n, .int .i64 c.f, .lst c.xs]], 0⟩), (1, ⟨true, true, true, [[.int .i64 c.n2, .int .i64 c.f2, .lst c.ys]], 0⟩), (2, ⟨true, true, true, [[.int .i64 c.id, .str c.lb, .bool c.r, .str c.t, .lst c.zs, .str c.tx, .int .i64 c.op, .bool c.g]], 0⟩)]⟩
set_option maxHeartbeats 4000000 in
def lkUn (s : St) : Option (lkC × lkX) :=
  match s with
  | ⟨[(q0, .ptr q1 q2 q3), (q4, .ptr q5 q6 q7), (q8, .int .i64 own), (q9, .ptr q10 q11 q12), (q13, .int .i64 k), (q14, .int .i64 cnt), (q15, .int .i64 i)], [(q16, ⟨true, true, true, [[.int .i64 n, .int .i64 f, .lst xs]], q17⟩), (q18, ⟨true, true, true, [[.int .i64 n2, .int .i64 f2, .lst ys]], q19⟩), (q20, ⟨true, true, true, [[.int .i64 id, .str lb, .bool r, .str t, .lst zs, .str tx, .int .i64 op, .bool g]], q21⟩)]⟩ => bif Nat.beq q0 2 && Nat.beq q1 0 && Nat.beq q2 0 && Nat.beq q3 0 && Nat.beq q4 5 && Nat.beq q5 1 && Nat.beq q6 0 && Nat.beq q7 0 && Nat.beq q8 7 && Nat.beq q9 9 && Nat.beq q10 2 && Nat.beq q11 0 && Nat.beq q12 0 && Nat.beq q13 10 && Nat.beq q14 58 && Nat.beq q15 59 && Nat.beq q16 0 && Nat.beq q17 0 && Nat.beq q18 1 && Nat.beq q19 0 && Nat.beq q20 2 && Nat.beq q21 0 then some (⟨n, f, xs, n2, f2, ys, own, cnt, i, id, lb, r, t, zs, tx, op, g⟩, ⟨k⟩) else none
  | _ => none
set_option maxHeartbeats 4000000 in
def lkL (inv : lkC → lkX → lkX → Nat → Prop) : LoopS where
  C := lkC
  X := lkX
  st := lkSt
  un := lkUn
  ok := by
    intro s c x h
    unfold lkUn at h
    split at h
    · simp only [Bool.cond_eq_ite] at h
      split at h
      · rename_i hg
        simp only [Bool.and_eq_true, Nat.beq_eq] at hg
        obtain ⟨⟨⟨⟨⟨⟨⟨⟨⟨⟨⟨⟨⟨⟨⟨⟨⟨⟨⟨⟨⟨rfl, rfl⟩, rfl⟩, rfl⟩, rfl⟩, rfl⟩, rfl⟩, rfl⟩, rfl⟩, rfl⟩, rfl⟩, rfl⟩, rfl⟩, rfl⟩, rfl⟩, rfl⟩, rfl⟩, rfl⟩, rfl⟩, rfl⟩, rfl⟩, rfl⟩ := hg
        cases h
        rfl
      · cases h
    · cases h
  inv := inv

theorem lr_vc (n f : Int) (xs : List (List V)) (K : V → List Bk → Prop) : vcF Tryd.prog cfgN (ctOf [(8, smCon), (10, rightCon), (11, rightCon), (9, okCon)]) (lpOf []) 3 [.agg [.int .i64 n, .int .i64 f, .lst xs]] [] K = (
  ∃ l4 : List Window, ((xs : List (List V)) = windowV l4) ∧ (
  ∀ b5 : Bool, (smT l4 b5) → (
  br (notB b5) (
    K (V.bool true) []) (
    ∃ l6 : List Window, ((xs : List (List V)) = windowV l6) ∧ (
    (smallL l6) ∧ (
    ∃ l7 : List Window, ((xs : List (List V)) = windowV l7) ∧ (
    (smallL l7) ∧ (
    br (eqB (rightW (Windows.mk n f l6)) (rightW (Windows.mk n f l7))) (
      K (V.bool true) []) (
      K (V.bool false) []))))))))) := by kernel_rfl

theorem lt_vc (n f : Int) (xs : List (List V)) (s : List UInt8) (I : ltC → ltX → ltX → Nat → Prop) (K : V → List Bk → Prop) : vcF Tryd.prog cfgN (ctOf [(8, smCon), (11, rightCon), (9, okCon), (12, makeCon), (14, wtypeCon), (15, wreadCon), (13, sameCon)]) (lpOf [(4, ltL I)]) 4 [.agg [.int .i64 n, .int .i64 f, .lst xs], .str s] [] K = (
  ∃ l6 : List Window, ((xs : List (List V)) = windowV l6) ∧ (
  ∀ b7 : Bool, (smT l6 b7) → (
  br (notB b7) (
    K (V.bool true) []) (
    br (ltI 200 (lenS s)) (
      K (V.bool true) []) (
      ∃ l8 : List Window, ((xs : List (List V)) = windowV l8) ∧ (
      (smallL l8) ∧ (
      br (notB (rightW (Windows.mk n f l8))) (
        K (V.bool true) []) (
        (∃ m9 : Nat, (((m9 : Nat) < 18446744073709551616)) ∧ (
        I (ltC.mk s n f xs) (ltX.mk 0) (ltX.mk 0) m9)) ∧ (
        ∀ x9 : (ltL I).X, ∀ m10 : Nat, (I (ltC.mk s n f xs) (ltX.mk 0) x9 m10) → (
        br (ltI x9.1 (lenS s)) (
          need (andB (leI 0 x9.1) (ltI x9.1 (lenS s))) (
          br (ltI (atS s x9.1) 32) (
            K (V.bool true) []) (
            need (andB (leI 0 x9.1) (ltI x9.1 (lenS s))) (
            br (ltI 126 (atS s x9.1)) (
              K (V.bool true) []) (
              ((ltC.mk s n f xs : (ltL I).C) = ltC.mk s n f xs) ∧ (
              ∃ m'11 : Nat, (((m'11 : Nat) < m10)) ∧ (
              I (ltC.mk s n f xs) (ltX.mk 0) (ltX.mk (addI IntKind.i64 x9.1 1)) m'11))))))) (
          ∃ l11 : List Window, ((xs : List (List V)) = windowV l11) ∧ (
          (smallL l11) ∧ (
          ((((n : Int) ≤ 9223372036854775807)) ∧ (
          ((-9223372036854775808 : Int) ≤ n))) ∧ (
          br (notB (eqI (makeF (Windows.mk (ltC.mk s n f xs).n (ltC.mk s n f xs).f l11) (ByteArray.mk #[110, 101, 119]).data.toList).snd.2 0)) (
            ∃ l12 : List Window, ((windowV (makeF (Windows.mk (ltC.mk s n f xs).n (ltC.mk s n f xs).f l11) (ByteArray.mk #[110, 101, 119]).data.toList).fst.3 : List (List V)) = windowV l12) ∧ (
            ((xs : List (List V)) = windowV l12) ∧ (
            (smallL l12) ∧ (
            (((makeF (Windows.mk (ltC.mk s n f xs).n (ltC.mk s n f xs).f l11) (ByteArray.mk #[110, 101, 119]).data.toList).fst.1 : Int) = n) ∧ (
            (((makeF (Windows.mk (ltC.mk s n f xs).n (ltC.mk s n f xs).f l11) (ByteArray.mk #[110, 101, 119]).data.toList).fst.2 : Int) = f) ∧ (
            K (V.bool true) [])))))) (
            need (catOk s [10]) (
            ∃ l12 : List Window, ((windowV (makeF (Windows.mk (ltC.mk s n f xs).n (ltC.mk s n f xs).f l11) (ByteArray.mk #[110, 101, 119]).data.toList).fst.3 : List (List V)) = windowV l12) ∧ (
            ((rightW (Windows.mk (makeF (Windows.mk (ltC.mk s n f xs).n (ltC.mk s n f xs).f l11) (ByteArray.mk #[110, 101, 119]).data.toList).fst.1 (makeF (Windows.mk (ltC.mk s n f xs).n (ltC.mk s n f xs).f l11) (ByteArray.mk #[110, 101, 119]).data.toList).fst.2 l12) : Bool) = true) ∧ (
            ((((catS s [10]).length : Nat) ≤ 100000)) ∧ (
            ∃ l13 : List Window, ((windowV (typeW (Windows.mk (makeF (Windows.mk (ltC.mk s n f xs).n (ltC.mk s n f xs).f l11) (ByteArray.mk #[110, 101, 119]).data.toList).fst.next (makeF (Windows.mk (ltC.mk s n f xs).n (ltC.mk s n f xs).f l11) (ByteArray.mk #[110, 101, 119]).data.toList).fst.focus l12) (catS (ltC.mk s n f xs).s (ByteArray.mk #[10]).data.toList)).3 : List (List V)) = windowV l13) ∧ (
            ((rightW (Windows.mk (typeW (Windows.mk (makeF (Windows.mk (ltC.mk s n f xs).n (ltC.mk s n f xs).f l11) (ByteArray.mk #[110, 101, 119]).data.toList).fst.next (makeF (Windows.mk (ltC.mk s n f xs).n (ltC.mk s n f xs).f l11) (ByteArray.mk #[110, 101, 119]).data.toList).fst.focus l12) (catS (ltC.mk s n f xs).s (ByteArray.mk #[10]).data.toList)).1 (typeW (Windows.mk (makeF (Windows.mk (ltC.mk s n f xs).n (ltC.mk s n f xs).f l11) (ByteArray.mk #[110, 101, 119]).data.toList).fst.next (makeF (Windows.mk (ltC.mk s n f xs).n (ltC.mk s n f xs).f l11) (ByteArray.mk #[110, 101, 119]).data.toList).fst.focus l12) (catS (ltC.mk s n f xs).s (ByteArray.mk #[10]).data.toList)).2 l13) : Bool) = true) ∧ (
            (((addI IntKind.i64 (mulI IntKind.i64 16 (makeF (Windows.mk (ltC.mk s n f xs).n (ltC.mk s n f xs).f l11) (ByteArray.mk #[110, 101, 119]).data.toList).snd.1) 1 : Int) ≤ 9223372036854775807)) ∧ (
            ∃ l14 : List Window, ((windowV (readW (Windows.mk (typeW (Windows.mk (makeF (Windows.mk (ltC.mk s n f xs).n (ltC.mk s n f xs).f l11) (ByteArray.mk #[110, 101, 119]).data.toList).fst.next (makeF (Windows.mk (ltC.mk s n f xs).n (ltC.mk s n f xs).f l11) (ByteArray.mk #[110, 101, 119]).data.toList).fst.focus l12) (catS (ltC.mk s n f xs).s (ByteArray.mk #[10]).data.toList)).next (typeW (Windows.mk (makeF (Windows.mk (ltC.mk s n f xs).n (ltC.mk s n f xs).f l11) (ByteArray.mk #[110, 101, 119]).data.toList).fst.next (makeF (Windows.mk (ltC.mk s n f xs).n (ltC.mk s n f xs).f l11) (ByteArray.mk #[110, 101, 119]).data.toList).fst.focus l12) (catS (ltC.mk s n f xs).s (ByteArray.mk #[10]).data.toList)).focus l13) (addI IntKind.i64 (mulI IntKind.i64 16 (makeF (Windows.mk (ltC.mk s n f xs).n (ltC.mk s n f xs).f l11) (ByteArray.mk #[110, 101, 119]).data.toList).snd.fst) 1) 0 4096).fst.3 : List (List V)) = windowV l14) ∧ (
            ((rightW (Windows.mk (readW (Windows.mk (typeW (Windows.mk (makeF (Windows.mk (ltC.mk s n f xs).n (ltC.mk s n f xs).f l11) (ByteArray.mk #[110, 101, 119]).data.toList).fst.next (makeF (Windows.mk (ltC.mk s n f xs).n (ltC.mk s n f xs).f l11) (ByteArray.mk #[110, 101, 119]).data.toList).fst.focus l12) (catS (ltC.mk s n f xs).s (ByteArray.mk #[10]).data.toList)).next (typeW (Windows.mk (makeF (Windows.mk (ltC.mk s n f xs).n (ltC.mk s n f xs).f l11) (ByteArray.mk #[110, 101, 119]).data.toList).fst.next (makeF (Windows.mk (ltC.mk s n f xs).n (ltC.mk s n f xs).f l11) (ByteArray.mk #[110, 101, 119]).data.toList).fst.focus l12) (catS (ltC.mk s n f xs).s (ByteArray.mk #[10]).data.toList)).focus l13) (addI IntKind.i64 (mulI IntKind.i64 16 (makeF (Windows.mk (ltC.mk s n f xs).n (ltC.mk s n f xs).f l11) (ByteArray.mk #[110, 101, 119]).data.toList).snd.fst) 1) 0 4096).fst.1 (readW (Windows.mk (typeW (Windows.mk (makeF (Windows.mk (ltC.mk s n f xs).n (ltC.mk s n f xs).f l11) (ByteArray.mk #[110, 101, 119]).data.toList).fst.next (makeF (Windows.mk (ltC.mk s n f xs).n (ltC.mk s n f xs).f l11) (ByteArray.mk #[110, 101, 119]).data.toList).fst.focus l12) (catS (ltC.mk s n f xs).s (ByteArray.mk #[10]).data.toList)).next (typeW (Windows.mk (makeF (Windows.mk (ltC.mk s n f xs).n (ltC.mk s n f xs).f l11) (ByteArray.mk #[110, 101, 119]).data.toList).fst.next (makeF (Windows.mk (ltC.mk s n f xs).n (ltC.mk s n f xs).f l11) (ByteArray.mk #[110, 101, 119]).data.toList).fst.focus l12) (catS (ltC.mk s n f xs).s (ByteArray.mk #[10]).data.toList)).focus l13) (addI IntKind.i64 (mulI IntKind.i64 16 (makeF (Windows.mk (ltC.mk s n f xs).n (ltC.mk s n f xs).f l11) (ByteArray.mk #[110, 101, 119]).data.toList).snd.fst) 1) 0 4096).fst.2 l14) : Bool) = true) ∧ (
            (((addI IntKind.i64 (mulI IntKind.i64 16 (makeF (Windows.mk (ltC.mk s n f xs).n (ltC.mk s n f xs).f l11) (ByteArray.mk #[110, 101, 119]).data.toList).snd.1) 4 : Int) ≤ 9223372036854775807)) ∧ (
            ∃ l15 : List Window, ((windowV (readW (Windows.mk (typeW (Windows.mk (makeF (Windows.mk (ltC.mk s n f xs).n (ltC.mk s n f xs).f l11) (ByteArray.mk #[110, 101, 119]).data.toList).fst.next (makeF (Windows.mk (ltC.mk s n f xs).n (ltC.mk s n f xs).f l11) (ByteArray.mk #[110, 101, 119]).data.toList).fst.focus l12) (catS (ltC.mk s n f xs).s (ByteArray.mk #[10]).data.toList)).next (typeW (Windows.mk (makeF (Windows.mk (ltC.mk s n f xs).n (ltC.mk s n f xs).f l11) (ByteArray.mk #[110, 101, 119]).data.toList).fst.next (makeF (Windows.mk (ltC.mk s n f xs).n (ltC.mk s n f xs).f l11) (ByteArray.mk #[110, 101, 119]).data.toList).fst.focus l12) (catS (ltC.mk s n f xs).s (ByteArray.mk #[10]).data.toList)).focus l13) (addI IntKind.i64 (mulI IntKind.i64 16 (makeF (Windows.mk (ltC.mk s n f xs).n (ltC.mk s n f xs).f l11) (ByteArray.mk #[110, 101, 119]).data.toList).snd.fst) 1) 0 4096).fst.3 : List (List V)) = windowV l15) ∧ (
            ((rightW (Windows.mk (readW (Windows.mk (typeW (Windows.mk (makeF (Windows.mk (ltC.mk s n f xs).n (ltC.mk s n f xs).f l11) (ByteArray.mk #[110, 101, 119]).data.toList).fst.next (makeF (Windows.mk (ltC.mk s n f xs).n (ltC.mk s n f xs).f l11) (ByteArray.mk #[110, 101, 119]).data.toList).fst.focus l12) (catS (ltC.mk s n f xs).s (ByteArray.mk #[10]).data.toList)).next (typeW (Windows.mk (makeF (Windows.mk (ltC.mk s n f xs).n (ltC.mk s n f xs).f l11) (ByteArray.mk #[110, 101, 119]).data.toList).fst.next (makeF (Windows.mk (ltC.mk s n f xs).n (ltC.mk s n f xs).f l11) (ByteArray.mk #[110, 101, 119]).data.toList).fst.focus l12) (catS (ltC.mk s n f xs).s (ByteArray.mk #[10]).data.toList)).focus l13) (addI IntKind.i64 (mulI IntKind.i64 16 (makeF (Windows.mk (ltC.mk s n f xs).n (ltC.mk s n f xs).f l11) (ByteArray.mk #[110, 101, 119]).data.toList).snd.fst) 1) 0 4096).fst.1 (readW (Windows.mk (typeW (Windows.mk (makeF (Windows.mk (ltC.mk s n f xs).n (ltC.mk s n f xs).f l11) (ByteArray.mk #[110, 101, 119]).data.toList).fst.next (makeF (Windows.mk (ltC.mk s n f xs).n (ltC.mk s n f xs).f l11) (ByteArray.mk #[110, 101, 119]).data.toList).fst.focus l12) (catS (ltC.mk s n f xs).s (ByteArray.mk #[10]).data.toList)).next (typeW (Windows.mk (makeF (Windows.mk (ltC.mk s n f xs).n (ltC.mk s n f xs).f l11) (ByteArray.mk #[110, 101, 119]).data.toList).fst.next (makeF (Windows.mk (ltC.mk s n f xs).n (ltC.mk s n f xs).f l11) (ByteArray.mk #[110, 101, 119]).data.toList).fst.focus l12) (catS (ltC.mk s n f xs).s (ByteArray.mk #[10]).data.toList)).focus l13) (addI IntKind.i64 (mulI IntKind.i64 16 (makeF (Windows.mk (ltC.mk s n f xs).n (ltC.mk s n f xs).f l11) (ByteArray.mk #[110, 101, 119]).data.toList).snd.fst) 1) 0 4096).fst.2 l15) : Bool) = true) ∧ (
            (((addI IntKind.i64 (mulI IntKind.i64 16 (makeF (Windows.mk (ltC.mk s n f xs).n (ltC.mk s n f xs).f l11) (ByteArray.mk #[110, 101, 119]).data.toList).snd.1) 1 : Int) ≤ 9223372036854775807)) ∧ (
            need (catOk s [10]) (
            br (eqS (readW (Windows.mk (typeW (Windows.mk (makeF (Windows.mk (ltC.mk s n f xs).n (ltC.mk s n f xs).f l11) (ByteArray.mk #[110, 101, 119]).data.toList).fst.next (makeF (Windows.mk (ltC.mk s n f xs).n (ltC.mk s n f xs).f l11) (ByteArray.mk #[110, 101, 119]).data.toList).fst.focus l12) (catS (ltC.mk s n f xs).s (ByteArray.mk #[10]).data.toList)).next (typeW (Windows.mk (makeF (Windows.mk (ltC.mk s n f xs).n (ltC.mk s n f xs).f l11) (ByteArray.mk #[110, 101, 119]).data.toList).fst.next (makeF (Windows.mk (ltC.mk s n f xs).n (ltC.mk s n f xs).f l11) (ByteArray.mk #[110, 101, 119]).data.toList).fst.focus l12) (catS (ltC.mk s n f xs).s (ByteArray.mk #[10]).data.toList)).focus l13) (addI IntKind.i64 (mulI IntKind.i64 16 (makeF (Windows.mk (ltC.mk s n f xs).n (ltC.mk s n f xs).f l11) (ByteArray.mk #[110, 101, 119]).data.toList).snd.fst) 1) 0 4096).snd.1 (catS s [10])) (
              br (notB (readW (Windows.mk (typeW (Windows.mk (makeF (Windows.mk (ltC.mk s n f xs).n (ltC.mk s n f xs).f l11) (ByteArray.mk #[110, 101, 119]).data.toList).fst.next (makeF (Windows.mk (ltC.mk s n f xs).n (ltC.mk s n f xs).f l11) (ByteArray.mk #[110, 101, 119]).data.toList).fst.focus l12) (catS (ltC.mk s n f xs).s (ByteArray.mk #[10]).data.toList)).next (typeW (Windows.mk (makeF (Windows.mk (ltC.mk s n f xs).n (ltC.mk s n f xs).f l11) (ByteArray.mk #[110, 101, 119]).data.toList).fst.next (makeF (Windows.mk (ltC.mk s n f xs).n (ltC.mk s n f xs).f l11) (ByteArray.mk #[110, 101, 119]).data.toList).fst.focus l12) (catS (ltC.mk s n f xs).s (ByteArray.mk #[10]).data.toList)).focus l13) (addI IntKind.i64 (mulI IntKind.i64 16 (makeF (Windows.mk (ltC.mk s n f xs).n (ltC.mk s n f xs).f l11) (ByteArray.mk #[110, 101, 119]).data.toList).snd.fst) 1) 0 4096).snd.snd.1) (
                br (eqI (readW (Windows.mk (typeW (Windows.mk (makeF (Windows.mk (ltC.mk s n f xs).n (ltC.mk s n f xs).f l11) (ByteArray.mk #[110, 101, 119]).data.toList).fst.next (makeF (Windows.mk (ltC.mk s n f xs).n (ltC.mk s n f xs).f l11) (ByteArray.mk #[110, 101, 119]).data.toList).fst.focus l12) (catS (ltC.mk s n f xs).s (ByteArray.mk #[10]).data.toList)).next (typeW (Windows.mk (makeF (Windows.mk (ltC.mk s n f xs).n (ltC.mk s n f xs).f l11) (ByteArray.mk #[110, 101, 119]).data.toList).fst.next (makeF (Windows.mk (ltC.mk s n f xs).n (ltC.mk s n f xs).f l11) (ByteArray.mk #[110, 101, 119]).data.toList).fst.focus l12) (catS (ltC.mk s n f xs).s (ByteArray.mk #[10]).data.toList)).focus l13) (addI IntKind.i64 (mulI IntKind.i64 16 (makeF (Windows.mk (ltC.mk s n f xs).n (ltC.mk s n f xs).f l11) (ByteArray.mk #[110, 101, 119]).data.toList).snd.fst) 1) 0 4096).snd.snd.2 0) (
                  need (catOk s [10]) (
                  br (eqS (readW (Windows.mk (readW (Windows.mk (typeW (Windows.mk (makeF (Windows.mk (ltC.mk s n f xs).n (ltC.mk s n f xs).f l11) (ByteArray.mk #[110, 101, 119]).data.toList).fst.next (makeF (Windows.mk (ltC.mk s n f xs).n (ltC.mk s n f xs).f l11) (ByteArray.mk #[110, 101, 119]).data.toList).fst.focus l12) (catS (ltC.mk s n f xs).s (ByteArray.mk #[10]).data.toList)).next (typeW (Windows.mk (makeF (Windows.mk (ltC.mk s n f xs).n (ltC.mk s n f xs).f l11) (ByteArray.mk #[110, 101, 119]).data.toList).fst.next (makeF (Windows.mk (ltC.mk s n f xs).n (ltC.mk s n f xs).f l11) (ByteArray.mk #[110, 101, 119]).data.toList).fst.focus l12) (catS (ltC.mk s n f xs).s (ByteArray.mk #[10]).data.toList)).focus l13) (addI IntKind.i64 (mulI IntKind.i64 16 (makeF (Windows.mk (ltC.mk s n f xs).n (ltC.mk s n f xs).f l11) (ByteArray.mk #[110, 101, 119]).data.toList).snd.fst) 1) 0 4096).fst.next (readW (Windows.mk (typeW (Windows.mk (makeF (Windows.mk (ltC.mk s n f xs).n (ltC.mk s n f xs).f l11) (ByteArray.mk #[110, 101, 119]).data.toList).fst.next (makeF (Windows.mk (ltC.mk s n f xs).n (ltC.mk s n f xs).f l11) (ByteArray.mk #[110, 101, 119]).data.toList).fst.focus l12) (catS (ltC.mk s n f xs).s (ByteArray.mk #[10]).data.toList)).next (typeW (Windows.mk (makeF (Windows.mk (ltC.mk s n f xs).n (ltC.mk s n f xs).f l11) (ByteArray.mk #[110, 101, 119]).data.toList).fst.next (makeF (Windows.mk (ltC.mk s n f xs).n (ltC.mk s n f xs).f l11) (ByteArray.mk #[110, 101, 119]).data.toList).fst.focus l12) (catS (ltC.mk s n f xs).s (ByteArray.mk #[10]).data.toList)).focus l13) (addI IntKind.i64 (mulI IntKind.i64 16 (makeF (Windows.mk (ltC.mk s n f xs).n (ltC.mk s n f xs).f l11) (ByteArray.mk #[110, 101, 119]).data.toList).snd.fst) 1) 0 4096).fst.focus l14) (addI IntKind.i64 (mulI IntKind.i64 16 (makeF (Windows.mk (ltC.mk s n f xs).n (ltC.mk s n f xs).f l11) (ByteArray.mk #[110, 101, 119]).data.toList).snd.fst) 4) 0 4096).snd.1 (catS s [10])) (
                    br (eqI (readW (Windows.mk (readW (Windows.mk (typeW (Windows.mk (makeF (Windows.mk (ltC.mk s n f xs).n (ltC.mk s n f xs).f l11) (ByteArray.mk #[110, 101, 119]).data.toList).fst.next (makeF (Windows.mk (ltC.mk s n f xs).n (ltC.mk s n f xs).f l11) (ByteArray.mk #[110, 101, 119]).data.toList).fst.focus l12) (catS (ltC.mk s n f xs).s (ByteArray.mk #[10]).data.toList)).next (typeW (Windows.mk (makeF (Windows.mk (ltC.mk s n f xs).n (ltC.mk s n f xs).f l11) (ByteArray.mk #[110, 101, 119]).data.toList).fst.next (makeF (Windows.mk (ltC.mk s n f xs).n (ltC.mk s n f xs).f l11) (ByteArray.mk #[110, 101, 119]).data.toList).fst.focus l12) (catS (ltC.mk s n f xs).s (ByteArray.mk #[10]).data.toList)).focus l13) (addI IntKind.i64 (mulI IntKind.i64 16 (makeF (Windows.mk (ltC.mk s n f xs).n (ltC.mk s n f xs).f l11) (ByteArray.mk #[110, 101, 119]).data.toList).snd.fst) 1) 0 4096).fst.next (readW (Windows.mk (typeW (Windows.mk (makeF (Windows.mk (ltC.mk s n f xs).n (ltC.mk s n f xs).f l11) (ByteArray.mk #[110, 101, 119]).data.toList).fst.next (makeF (Windows.mk (ltC.mk s n f xs).n (ltC.mk s n f xs).f l11) (ByteArray.mk #[110, 101, 119]).data.toList).fst.focus l12) (catS (ltC.mk s n f xs).s (ByteArray.mk #[10]).data.toList)).next (typeW (Windows.mk (makeF (Windows.mk (ltC.mk s n f xs).n (ltC.mk s n f xs).f l11) (ByteArray.mk #[110, 101, 119]).data.toList).fst.next (makeF (Windows.mk (ltC.mk s n f xs).n (ltC.mk s n f xs).f l11) (ByteArray.mk #[110, 101, 119]).data.toList).fst.focus l12) (catS (ltC.mk s n f xs).s (ByteArray.mk #[10]).data.toList)).focus l13) (addI IntKind.i64 (mulI IntKind.i64 16 (makeF (Windows.mk (ltC.mk s n f xs).n (ltC.mk s n f xs).f l11) (ByteArray.mk #[110, 101, 119]).data.toList).snd.fst) 1) 0 4096).fst.focus l14) (addI IntKind.i64 (mulI IntKind.i64 16 (makeF (Windows.mk (ltC.mk s n f xs).n (ltC.mk s n f xs).f l11) (ByteArray.mk #[110, 101, 119]).data.toList).snd.fst) 4) 0 4096).snd.snd.2 0) (
                      br ((readW (Windows.mk (readW (Windows.mk (typeW (Windows.mk (makeF (Windows.mk (ltC.mk s n f xs).n (ltC.mk s n f xs).f l11) (ByteArray.mk #[110, 101, 119]).data.toList).fst.next (makeF (Windows.mk (ltC.mk s n f xs).n (ltC.mk s n f xs).f l11) (ByteArray.mk #[110, 101, 119]).data.toList).fst.focus l12) (catS (ltC.mk s n f xs).s (ByteArray.mk #[10]).data.toList)).next (typeW (Windows.mk (makeF (Windows.mk (ltC.mk s n f xs).n (ltC.mk s n f xs).f l11) (ByteArray.mk #[110, 101, 119]).data.toList).fst.next (makeF (Windows.mk (ltC.mk s n f xs).n (ltC.mk s n f xs).f l11) (ByteArray.mk #[110, 101, 119]).data.toList).fst.focus l12) (catS (ltC.mk s n f xs).s (ByteArray.mk #[10]).data.toList)).focus l13) (addI IntKind.i64 (mulI IntKind.i64 16 (makeF (Windows.mk (ltC.mk s n f xs).n (ltC.mk s n f xs).f l11) (ByteArray.mk #[110, 101, 119]).data.toList).snd.fst) 1) 0 4096).fst.next (readW (Windows.mk (typeW (Windows.mk (makeF (Windows.mk (ltC.mk s n f xs).n (ltC.mk s n f xs).f l11) (ByteArray.mk #[110, 101, 119]).data.toList).fst.next (makeF (Windows.mk (ltC.mk s n f xs).n (ltC.mk s n f xs).f l11) (ByteArray.mk #[110, 101, 119]).data.toList).fst.focus l12) (catS (ltC.mk s n f xs).s (ByteArray.mk #[10]).data.toList)).next (typeW (Windows.mk (makeF (Windows.mk (ltC.mk s n f xs).n (ltC.mk s n f xs).f l11) (ByteArray.mk #[110, 101, 119]).data.toList).fst.next (makeF (Windows.mk (ltC.mk s n f xs).n (ltC.mk s n f xs).f l11) (ByteArray.mk #[110, 101, 119]).data.toList).fst.focus l12) (catS (ltC.mk s n f xs).s (ByteArray.mk #[10]).data.toList)).focus l13) (addI IntKind.i64 (mulI IntKind.i64 16 (makeF (Windows.mk (ltC.mk s n f xs).n (ltC.mk s n f xs).f l11) (ByteArray.mk #[110, 101, 119]).data.toList).snd.fst) 1) 0 4096).fst.focus l15) (addI IntKind.i64 (mulI IntKind.i64 16 (makeF (Windows.mk (ltC.mk s n f xs).n (ltC.mk s n f xs).f l11) (ByteArray.mk #[110, 101, 119]).data.toList).snd.fst) 1) 0 4096).snd.snd.1) (
                        br (eqI (readW (Windows.mk (readW (Windows.mk (typeW (Windows.mk (makeF (Windows.mk (ltC.mk s n f xs).n (ltC.mk s n f xs).f l11) (ByteArray.mk #[110, 101, 119]).data.toList).fst.next (makeF (Windows.mk (ltC.mk s n f xs).n (ltC.mk s n f xs).f l11) (ByteArray.mk #[110, 101, 119]).data.toList).fst.focus l12) (catS (ltC.mk s n f xs).s (ByteArray.mk #[10]).data.toList)).next (typeW (Windows.mk (makeF (Windows.mk (ltC.mk s n f xs).n (ltC.mk s n f xs).f l11) (ByteArray.mk #[110, 101, 119]).data.toList).fst.next (makeF (Windows.mk (ltC.mk s n f xs).n (ltC.mk s n f xs).f l11) (ByteArray.mk #[110, 101, 119]).data.toList).fst.focus l12) (catS (ltC.mk s n f xs).s (ByteArray.mk #[10]).data.toList)).focus l13) (addI IntKind.i64 (mulI IntKind.i64 16 (makeF (Windows.mk (ltC.mk s n f xs).n (ltC.mk s n f xs).f l11) (ByteArray.mk #[110, 101, 119]).data.toList).snd.fst) 1) 0 4096).fst.next (readW (Windows.mk (typeW (Windows.mk (makeF (Windows.mk (ltC.mk s n f xs).n (ltC.mk s n f xs).f l11) (ByteArray.mk #[110, 101, 119]).data.toList).fst.next (makeF (Windows.mk (ltC.mk s n f xs).n (ltC.mk s n f xs).f l11) (ByteArray.mk #[110, 101, 119]).data.toList).fst.focus l12) (catS (ltC.mk s n f xs).s (ByteArray.mk #[10]).data.toList)).next (typeW (Windows.mk (makeF (Windows.mk (ltC.mk s n f xs).n (ltC.mk s n f xs).f l11) (ByteArray.mk #[110, 101, 119]).data.toList).fst.next (makeF (Windows.mk (ltC.mk s n f xs).n (ltC.mk s n f xs).f l11) (ByteArray.mk #[110, 101, 119]).data.toList).fst.focus l12) (catS (ltC.mk s n f xs).s (ByteArray.mk #[10]).data.toList)).focus l13) (addI IntKind.i64 (mulI IntKind.i64 16 (makeF (Windows.mk (ltC.mk s n f xs).n (ltC.mk s n f xs).f l11) (ByteArray.mk #[110, 101, 119]).data.toList).snd.fst) 1) 0 4096).fst.focus l15) (addI IntKind.i64 (mulI IntKind.i64 16 (makeF (Windows.mk (ltC.mk s n f xs).n (ltC.mk s n f xs).f l11) (ByteArray.mk #[110, 101, 119]).data.toList).snd.fst) 1) 0 4096).snd.snd.2 0) (
                          K (V.bool true) []) (
                          K (V.bool false) [])) (
                        K (V.bool false) [])) (
                      K (V.bool false) [])) (
                    K (V.bool false) []))) (
                  K (V.bool false) [])) (
                K (V.bool false) [])) (
              K (V.bool false) [])))))))))))))))))))))))))))))) := by kernel_rfl

def la_vc_2 (n f : Int) (xs : List (List V)) (k a m o c : Int) (t : List UInt8) (I : laC → laX → laX → Nat → Prop) (J : lkC → lkX → lkX → Nat → Prop) (K : V → List Bk → Prop) (l15 : List Window) (x16 : (laL I).X) (n18 : Int) (s19 : List UInt8) (b20 : Bool) (s21 : List UInt8) (xs22 : List (List V)) (s23 : List UInt8) (n24 : Int) (b25 : Bool) (m27 : Nat) (x26 : (lkL J).X) : Prop :=
  (
                            ((lkC.mk n f xs (didF (Windows.mk n f l15) (Op.mk k a m o c t)).fst.1 (didF (Windows.mk n f l15) (Op.mk k a m o c t)).fst.2 (windowV (didF (Windows.mk n f l15) (Op.mk k a m o c t)).fst.3) (quoI IntKind.i64 a 16) (lenL xs) x16.1 n18 s19 b20 s21 xs22 s23 n24 b25 : (lkL J).C) = lkC.mk n f xs (didF (Windows.mk n f l15) (Op.mk k a m o c t)).fst.1 (didF (Windows.mk n f l15) (Op.mk k a m o c t)).fst.2 (windowV (didF (Windows.mk n f l15) (Op.mk k a m o c t)).fst.3) (quoI IntKind.i64 a 16) (lenL xs) x16.1 n18 s19 b20 s21 xs22 s23 n24 b25) ∧ (
                            ∃ m'37 : Nat, (((m'37 : Nat) < m27)) ∧ (
                            J (lkC.mk n f xs (didF (Windows.mk n f l15) (Op.mk k a m o c t)).fst.1 (didF (Windows.mk n f l15) (Op.mk k a m o c t)).fst.2 (windowV (didF (Windows.mk n f l15) (Op.mk k a m o c t)).fst.3) (quoI IntKind.i64 a 16) (lenL xs) x16.1 n18 s19 b20 s21 xs22 s23 n24 b25) (lkX.mk 0) (lkX.mk (addI IntKind.i64 x26.1 1)) m'37)))
def la_vc_4 (n f : Int) (xs : List (List V)) (k a m o c : Int) (t : List UInt8) (I : laC → laX → laX → Nat → Prop) (J : lkC → lkX → lkX → Nat → Prop) (K : V → List Bk → Prop) (l15 : List Window) (m17 : Nat) (x16 : (laL I).X) : Prop :=
  (
                      ((laC.mk n f xs (didF (Windows.mk n f l15) (Op.mk k a m o c t)).fst.1 (didF (Windows.mk n f l15) (Op.mk k a m o c t)).fst.2 (windowV (didF (Windows.mk n f l15) (Op.mk k a m o c t)).fst.3) (quoI IntKind.i64 a 16) (lenL xs) : (laL I).C) = laC.mk n f xs (didF (Windows.mk n f l15) (Op.mk k a m o c t)).fst.1 (didF (Windows.mk n f l15) (Op.mk k a m o c t)).fst.2 (windowV (didF (Windows.mk n f l15) (Op.mk k a m o c t)).fst.3) (quoI IntKind.i64 a 16) (lenL xs)) ∧ (
                      ∃ m'28 : Nat, (((m'28 : Nat) < m17)) ∧ (
                      I (laC.mk n f xs (didF (Windows.mk n f l15) (Op.mk k a m o c t)).fst.1 (didF (Windows.mk n f l15) (Op.mk k a m o c t)).fst.2 (windowV (didF (Windows.mk n f l15) (Op.mk k a m o c t)).fst.3) (quoI IntKind.i64 a 16) (lenL xs)) (laX.mk 0) (laX.mk (addI IntKind.i64 x16.1 1)) m'28)))
def la_vc_3 (n f : Int) (xs : List (List V)) (k a m o c : Int) (t : List UInt8) (I : laC → laX → laX → Nat → Prop) (J : lkC → lkX → lkX → Nat → Prop) (K : V → List Bk → Prop) (l15 : List Window) (x16 : (laL I).X) (n18 : Int) (s19 : List UInt8) (b20 : Bool) (s21 : List UInt8) (xs22 : List (List V)) (s23 : List UInt8) (n24 : Int) (b25 : Bool) (m27 : Nat) (x26 : (lkL J).X) : Prop :=
  (
                            ((lkC.mk n f xs (didF (Windows.mk n f l15) (Op.mk k a m o c t)).fst.1 (didF (Windows.mk n f l15) (Op.mk k a m o c t)).fst.2 (windowV (didF (Windows.mk n f l15) (Op.mk k a m o c t)).fst.3) f (lenL xs) x16.1 n18 s19 b20 s21 xs22 s23 n24 b25 : (lkL J).C) = lkC.mk n f xs (didF (Windows.mk n f l15) (Op.mk k a m o c t)).fst.1 (didF (Windows.mk n f l15) (Op.mk k a m o c t)).fst.2 (windowV (didF (Windows.mk n f l15) (Op.mk k a m o c t)).fst.3) f (lenL xs) x16.1 n18 s19 b20 s21 xs22 s23 n24 b25) ∧ (
                            ∃ m'37 : Nat, (((m'37 : Nat) < m27)) ∧ (
                            J (lkC.mk n f xs (didF (Windows.mk n f l15) (Op.mk k a m o c t)).fst.1 (didF (Windows.mk n f l15) (Op.mk k a m o c t)).fst.2 (windowV (didF (Windows.mk n f l15) (Op.mk k a m o c t)).fst.3) f (lenL xs) x16.1 n18 s19 b20 s21 xs22 s23 n24 b25) (lkX.mk 0) (lkX.mk (addI IntKind.i64 x26.1 1)) m'37)))
def la_vc_5 (n f : Int) (xs : List (List V)) (k a m o c : Int) (t : List UInt8) (I : laC → laX → laX → Nat → Prop) (J : lkC → lkX → lkX → Nat → Prop) (K : V → List Bk → Prop) (l15 : List Window) (m17 : Nat) (x16 : (laL I).X) : Prop :=
  (
                      ((laC.mk n f xs (didF (Windows.mk n f l15) (Op.mk k a m o c t)).fst.1 (didF (Windows.mk n f l15) (Op.mk k a m o c t)).fst.2 (windowV (didF (Windows.mk n f l15) (Op.mk k a m o c t)).fst.3) f (lenL xs) : (laL I).C) = laC.mk n f xs (didF (Windows.mk n f l15) (Op.mk k a m o c t)).fst.1 (didF (Windows.mk n f l15) (Op.mk k a m o c t)).fst.2 (windowV (didF (Windows.mk n f l15) (Op.mk k a m o c t)).fst.3) f (lenL xs)) ∧ (
                      ∃ m'28 : Nat, (((m'28 : Nat) < m17)) ∧ (
                      I (laC.mk n f xs (didF (Windows.mk n f l15) (Op.mk k a m o c t)).fst.1 (didF (Windows.mk n f l15) (Op.mk k a m o c t)).fst.2 (windowV (didF (Windows.mk n f l15) (Op.mk k a m o c t)).fst.3) f (lenL xs)) (laX.mk 0) (laX.mk (addI IntKind.i64 x16.1 1)) m'28)))
def la_vc_1 (n f : Int) (xs : List (List V)) (k a m o c : Int) (t : List UInt8) (I : laC → laX → laX → Nat → Prop) (J : lkC → lkX → lkX → Nat → Prop) (K : V → List Bk → Prop) : Prop :=
  (
              ∃ l15 : List Window, ((xs : List (List V)) = windowV l15) ∧ (
              ((rightW (Windows.mk n f l15) : Bool) = true) ∧ (
              (((a : Int) ≤ 9223372036854775807)) ∧ (
              (((m : Int) ≤ 9223372036854775807)) ∧ (
              (((-9223372036854775808 : Int) ≤ m)) ∧ (
              (((t.length : Nat) ≤ 100000)) ∧ (
              br (notB (eqI k 3)) (
                (∃ m16 : Nat, (((m16 : Nat) < 18446744073709551616)) ∧ (
                I (laC.mk n f xs (didF (Windows.mk n f l15) (Op.mk k a m o c t)).fst.1 (didF (Windows.mk n f l15) (Op.mk k a m o c t)).fst.2 (windowV (didF (Windows.mk n f l15) (Op.mk k a m o c t)).fst.3) (quoI IntKind.i64 a 16) (lenL xs)) (laX.mk 0) (laX.mk 0) m16)) ∧ (
                ∀ x16 : (laL I).X, ∀ m17 : Nat, (I (laC.mk n f xs (didF (Windows.mk n f l15) (Op.mk k a m o c t)).fst.1 (didF (Windows.mk n f l15) (Op.mk k a m o c t)).fst.2 (windowV (didF (Windows.mk n f l15) (Op.mk k a m o c t)).fst.3) (quoI IntKind.i64 a 16) (lenL xs)) (laX.mk 0) x16 m17) → (
                br (ltI x16.1 (lenL xs)) (
                  need (andB (leI 0 x16.1) (ltI x16.1 (lenL xs))) (
                  need (okRow xs x16.1.toNat 8) (
                  ∃ n18 : Int, ∃ s19 : List UInt8, ∃ b20 : Bool, ∃ s21 : List UInt8, ∃ xs22 : List (List V), ∃ s23 : List UInt8, ∃ n24 : Int, ∃ b25 : Bool, ((sub (rowAt xs x16.1) 0 8 : Option (List V)) = some [V.int IntKind.i64 n18, V.str s19, V.bool b20, V.str s21, V.lst xs22, V.str s23, V.int IntKind.i64 n24, V.bool b25]) ∧ (
                  (∃ m26 : Nat, (((m26 : Nat) < 18446744073709551616)) ∧ (
                  J (lkC.mk n f xs (didF (Windows.mk n f l15) (Op.mk k a m o c t)).fst.1 (didF (Windows.mk n f l15) (Op.mk k a m o c t)).fst.2 (windowV (didF (Windows.mk n f l15) (Op.mk k a m o c t)).fst.3) (quoI IntKind.i64 a 16) (lenL xs) x16.1 n18 s19 b20 s21 xs22 s23 n24 b25) (lkX.mk 0) (lkX.mk 0) m26)) ∧ (
                  ∀ x26 : (lkL J).X, ∀ m27 : Nat, (J (lkC.mk n f xs (didF (Windows.mk n f l15) (Op.mk k a m o c t)).fst.1 (didF (Windows.mk n f l15) (Op.mk k a m o c t)).fst.2 (windowV (didF (Windows.mk n f l15) (Op.mk k a m o c t)).fst.3) (quoI IntKind.i64 a 16) (lenL xs) x16.1 n18 s19 b20 s21 xs22 s23 n24 b25) (lkX.mk 0) x26 m27) → (
                  br (ltI x26.1 (lenL (windowV (didF (Windows.mk n f l15) (Op.mk k a m o c t)).fst.3))) (
                    br (notB (eqI n18 (quoI IntKind.i64 a 16))) (
                      need (andB (leI 0 x26.1) (ltI x26.1 (lenL (windowV (didF (Windows.mk n f l15) (Op.mk k a m o c t)).fst.3)))) (
                      need (okRow (windowV (didF (Windows.mk n f l15) (Op.mk k a m o c t)).fst.3) x26.1.toNat 8) (
                      ∃ n28 : Int, ∃ s29 : List UInt8, ∃ b30 : Bool, ∃ s31 : List UInt8, ∃ xs32 : List (List V), ∃ s33 : List UInt8, ∃ n34 : Int, ∃ b35 : Bool, ((sub (rowAt (windowV (didF (Windows.mk n f l15) (Op.mk k a m o c t)).fst.3) x26.1) 0 8 : Option (List V)) = some [V.int IntKind.i64 n28, V.str s29, V.bool b30, V.str s31, V.lst xs32, V.str s33, V.int IntKind.i64 n34, V.bool b35]) ∧ (
                      br (eqI n18 n28) (
                        br (notB (eqS s19 s29)) (
                          K (V.bool false) []) (
                          br (notB (eqS s23 s33)) (
                            K (V.bool false) []) (
                            ∃ l36 : List (List UInt8), ((xs22 : List (List V)) = strV l36) ∧ (
                            ((xs32 : List (List V)) = strV l36) ∧ (
                            (((l36.length : Nat) ≤ 100000)) ∧ (
                            ((b20 : Bool) = b30) ∧ (
                            ((s21 : List UInt8) = s31) ∧ (la_vc_2 n f xs k a m o c t I J K l15 x16 n18 s19 b20 s21 xs22 s23 n24 b25 m27 x26)))))))) (la_vc_2 n f xs k a m o c t I J K l15 x16 n18 s19 b20 s21 xs22 s23 n24 b25 m27 x26))))) (la_vc_4 n f xs k a m o c t I J K l15 m17 x16)) (la_vc_4 n f xs k a m o c t I J K l15 m17 x16))))))) (
                  K (V.bool true) [])))) (
                (∃ m16 : Nat, (((m16 : Nat) < 18446744073709551616)) ∧ (
                I (laC.mk n f xs (didF (Windows.mk n f l15) (Op.mk k a m o c t)).fst.1 (didF (Windows.mk n f l15) (Op.mk k a m o c t)).fst.2 (windowV (didF (Windows.mk n f l15) (Op.mk k a m o c t)).fst.3) f (lenL xs)) (laX.mk 0) (laX.mk 0) m16)) ∧ (
                ∀ x16 : (laL I).X, ∀ m17 : Nat, (I (laC.mk n f xs (didF (Windows.mk n f l15) (Op.mk k a m o c t)).fst.1 (didF (Windows.mk n f l15) (Op.mk k a m o c t)).fst.2 (windowV (didF (Windows.mk n f l15) (Op.mk k a m o c t)).fst.3) f (lenL xs)) (laX.mk 0) x16 m17) → (
                br (ltI x16.1 (lenL xs)) (
                  need (andB (leI 0 x16.1) (ltI x16.1 (lenL xs))) (
                  need (okRow xs x16.1.toNat 8) (
                  ∃ n18 : Int, ∃ s19 : List UInt8, ∃ b20 : Bool, ∃ s21 : List UInt8, ∃ xs22 : List (List V), ∃ s23 : List UInt8, ∃ n24 : Int, ∃ b25 : Bool, ((sub (rowAt xs x16.1) 0 8 : Option (List V)) = some [V.int IntKind.i64 n18, V.str s19, V.bool b20, V.str s21, V.lst xs22, V.str s23, V.int IntKind.i64 n24, V.bool b25]) ∧ (
                  (∃ m26 : Nat, (((m26 : Nat) < 18446744073709551616)) ∧ (
                  J (lkC.mk n f xs (didF (Windows.mk n f l15) (Op.mk k a m o c t)).fst.1 (didF (Windows.mk n f l15) (Op.mk k a m o c t)).fst.2 (windowV (didF (Windows.mk n f l15) (Op.mk k a m o c t)).fst.3) f (lenL xs) x16.1 n18 s19 b20 s21 xs22 s23 n24 b25) (lkX.mk 0) (lkX.mk 0) m26)) ∧ (
                  ∀ x26 : (lkL J).X, ∀ m27 : Nat, (J (lkC.mk n f xs (didF (Windows.mk n f l15) (Op.mk k a m o c t)).fst.1 (didF (Windows.mk n f l15) (Op.mk k a m o c t)).fst.2 (windowV (didF (Windows.mk n f l15) (Op.mk k a m o c t)).fst.3) f (lenL xs) x16.1 n18 s19 b20 s21 xs22 s23 n24 b25) (lkX.mk 0) x26 m27) → (
                  br (ltI x26.1 (lenL (windowV (didF (Windows.mk n f l15) (Op.mk k a m o c t)).fst.3))) (
                    br (notB (eqI n18 f)) (
                      need (andB (leI 0 x26.1) (ltI x26.1 (lenL (windowV (didF (Windows.mk n f l15) (Op.mk k a m o c t)).fst.3)))) (
                      need (okRow (windowV (didF (Windows.mk n f l15) (Op.mk k a m o c t)).fst.3) x26.1.toNat 8) (
                      ∃ n28 : Int, ∃ s29 : List UInt8, ∃ b30 : Bool, ∃ s31 : List UInt8, ∃ xs32 : List (List V), ∃ s33 : List UInt8, ∃ n34 : Int, ∃ b35 : Bool, ((sub (rowAt (windowV (didF (Windows.mk n f l15) (Op.mk k a m o c t)).fst.3) x26.1) 0 8 : Option (List V)) = some [V.int IntKind.i64 n28, V.str s29, V.bool b30, V.str s31, V.lst xs32, V.str s33, V.int IntKind.i64 n34, V.bool b35]) ∧ (
                      br (eqI n18 n28) (
                        br (notB (eqS s19 s29)) (
                          K (V.bool false) []) (
                          br (notB (eqS s23 s33)) (
                            K (V.bool false) []) (
                            ∃ l36 : List (List UInt8), ((xs22 : List (List V)) = strV l36) ∧ (
                            ((xs32 : List (List V)) = strV l36) ∧ (
                            (((l36.length : Nat) ≤ 100000)) ∧ (
                            ((b20 : Bool) = b30) ∧ (
                            ((s21 : List UInt8) = s31) ∧ (la_vc_3 n f xs k a m o c t I J K l15 x16 n18 s19 b20 s21 xs22 s23 n24 b25 m27 x26)))))))) (la_vc_3 n f xs k a m o c t I J K l15 x16 n18 s19 b20 s21 xs22 s23 n24 b25 m27 x26))))) (la_vc_5 n f xs k a m o c t I J K l15 m17 x16)) (la_vc_5 n f xs k a m o c t I J K l15 m17 x16))))))) (
                  K (V.bool true) [])))))))))))
theorem la_vc (n f : Int) (xs : List (List V)) (k a m o c : Int) (t : List UInt8) (I : laC → laX → laX → Nat → Prop) (J : lkC → lkX → lkX → Nat → Prop) (K : V → List Bk → Prop) : vcF Tryd.prog cfgN (ctOf [(8, smCon), (11, rightCon), (9, okCon), (16, didCon), (17, sameLineCon)]) (lpOf [(8, laL I), (12, lkL J)]) 5 [.agg [.int .i64 n, .int .i64 f, .lst xs], .agg [.int .i64 k, .int .i64 a, .int .i64 m, .int .i64 o, .int .i64 c, .str t]] [] K = (
  ∃ l12 : List Window, ((xs : List (List V)) = windowV l12) ∧ (
  ∀ b13 : Bool, (smT l12 b13) → (
  br (notB b13) (
    K (V.bool true) []) (
    br (ltI 70000 (lenS t)) (
      K (V.bool true) []) (
      ∃ l14 : List Window, ((xs : List (List V)) = windowV l14) ∧ (
      (smallL l14) ∧ (
      br (notB (rightW (Windows.mk n f l14))) (
        K (V.bool true) []) (
        br (notB (eqI k 3)) (
          br (notB (eqI k 5)) (
            br (notB (eqI k 6)) (
              K (V.bool true) []) (la_vc_1 n f xs k a m o c t I J K)) (la_vc_1 n f xs k a m o c t I J K)) (la_vc_1 n f xs k a m o c t I J K))))))))) := by kernel_rfl

theorem lb_vc (n f : Int) (xs : List (List V)) (id cnt : Int) (K : V → List Bk → Prop) : vcF Tryd.prog cfgN (ctOf [(8, smCon), (11, rightCon), (9, okCon), (15, wreadCon), (18, focusCon), (14, wtypeCon), (13, sameCon)]) (lpOf []) 6 [.agg [.int .i64 n, .int .i64 f, .lst xs], .int .i64 id, .int .i64 cnt] [] K = (
  ∃ l6 : List Window, ((xs : List (List V)) = windowV l6) ∧ (
  ∀ b7 : Bool, (smT l6 b7) → (
  br (notB b7) (
    K (V.bool true) []) (
    ∃ l8 : List Window, ((xs : List (List V)) = windowV l8) ∧ (
    (smallL l8) ∧ (
    br (notB (rightW (Windows.mk n f l8))) (
      K (V.bool true) []) (
      ∃ l9 : List Window, ((xs : List (List V)) = windowV l9) ∧ (
      ((rightW (Windows.mk n f l9) : Bool) = true) ∧ (
      (((id : Int) ≤ 9223372036854775807)) ∧ (
      br (notB (readW (Windows.mk n f l9) id 0 cnt).snd.snd.1) (
        K (V.bool true) []) (
        br (notB (eqI (readW (Windows.mk n f l9) id 0 cnt).snd.snd.2 0)) (
          K (V.bool false) []) (
          br (notB (eqS (readW (Windows.mk n f l9) id 0 cnt).snd.1 [])) (
            K (V.bool false) []) (
            ∃ l10 : List Window, ((windowV (readW (Windows.mk n f l9) id 0 cnt).fst.3 : List (List V)) = windowV l10) ∧ (
            ((xs : List (List V)) = windowV l10) ∧ (
            (smallL l10) ∧ (
            (((readW (Windows.mk n f l9) id 0 cnt).fst.1 : Int) = n) ∧ (
            (((readW (Windows.mk n f l9) id 0 cnt).fst.2 : Int) = f) ∧ (
            br (ltI id 16) (
              K (V.bool false) []) (
              ∃ l11 : List Window, ((xs : List (List V)) = windowV l11) ∧ (
              (smallL l11) ∧ (
              br (notB (eqI (focusF (Windows.mk n f l11) (quoI IntKind.i64 id 16)).2 0)) (
                K (V.bool false) []) (
                ∃ l12 : List Window, ((windowV (focusF (Windows.mk n f l11) (quoI IntKind.i64 id 16)).fst.3 : List (List V)) = windowV l12) ∧ (
                ((rightW (Windows.mk (focusF (Windows.mk n f l11) (quoI IntKind.i64 id 16)).fst.1 (focusF (Windows.mk n f l11) (quoI IntKind.i64 id 16)).fst.2 l12) : Bool) = true) ∧ (
                (((1 : Nat) ≤ 100000)) ∧ (
                ∃ l13 : List Window, ((windowV (typeW (Windows.mk (focusF (Windows.mk n f l11) (quoI IntKind.i64 id 16)).fst.next (focusF (Windows.mk n f l11) (quoI IntKind.i64 id 16)).fst.focus l12) (ByteArray.mk #[10]).data.toList).3 : List (List V)) = windowV l13) ∧ (
                ((rightW (Windows.mk (typeW (Windows.mk (focusF (Windows.mk n f l11) (quoI IntKind.i64 id 16)).fst.next (focusF (Windows.mk n f l11) (quoI IntKind.i64 id 16)).fst.focus l12) (ByteArray.mk #[10]).data.toList).1 (typeW (Windows.mk (focusF (Windows.mk n f l11) (quoI IntKind.i64 id 16)).fst.next (focusF (Windows.mk n f l11) (quoI IntKind.i64 id 16)).fst.focus l12) (ByteArray.mk #[10]).data.toList).2 l13) : Bool) = true) ∧ (
                (((id : Int) ≤ 9223372036854775807)) ∧ (
                br (notB (readW (Windows.mk (typeW (Windows.mk (focusF (Windows.mk n f l11) (quoI IntKind.i64 id 16)).fst.next (focusF (Windows.mk n f l11) (quoI IntKind.i64 id 16)).fst.focus l12) (ByteArray.mk #[10]).data.toList).next (typeW (Windows.mk (focusF (Windows.mk n f l11) (quoI IntKind.i64 id 16)).fst.next (focusF (Windows.mk n f l11) (quoI IntKind.i64 id 16)).fst.focus l12) (ByteArray.mk #[10]).data.toList).focus l13) id 0 cnt).snd.snd.1) (
                  br (eqI (readW (Windows.mk (typeW (Windows.mk (focusF (Windows.mk n f l11) (quoI IntKind.i64 id 16)).fst.next (focusF (Windows.mk n f l11) (quoI IntKind.i64 id 16)).fst.focus l12) (ByteArray.mk #[10]).data.toList).next (typeW (Windows.mk (focusF (Windows.mk n f l11) (quoI IntKind.i64 id 16)).fst.next (focusF (Windows.mk n f l11) (quoI IntKind.i64 id 16)).fst.focus l12) (ByteArray.mk #[10]).data.toList).focus l13) id 0 cnt).snd.snd.2 0) (
                    br (leI (lenS (readW (Windows.mk (typeW (Windows.mk (focusF (Windows.mk n f l11) (quoI IntKind.i64 id 16)).fst.next (focusF (Windows.mk n f l11) (quoI IntKind.i64 id 16)).fst.focus l12) (ByteArray.mk #[10]).data.toList).next (typeW (Windows.mk (focusF (Windows.mk n f l11) (quoI IntKind.i64 id 16)).fst.next (focusF (Windows.mk n f l11) (quoI IntKind.i64 id 16)).fst.focus l12) (ByteArray.mk #[10]).data.toList).focus l13) id 0 cnt).snd.1) (maxI cnt 0)) (
                      K (V.bool true) []) (
                      K (V.bool false) [])) (
                    K (V.bool false) [])) (
                  K (V.bool false) []))))))))))))))))))))))))))))) := by kernel_rfl

end Go.Proofs.YtdbbpibfejchfaaDoor
namespace Go.Proofs.YtdbbpibfejchfaaDoor
open Go.RowKit
set_option maxRecDepth 100000
set_option linter.unusedVariables false
set_option linter.unusedSimpArgs false
-- places after a change
theorem gone_set {l : List Window} {i : Nat} {f g : Window} (h : l[i]? = some f) (hg : g.gone = f.gone) (j : Int) : (wAt (l.set i g) j).gone = (wAt l j).gone := by
  unfold wAt
  rw [List.getD_eq_getElem?_getD, List.getD_eq_getElem?_getD]
  by_cases hij : i = j.toNat
  · subst hij
    rw [List.getElem?_set_self (List.getElem?_eq_some_iff.1 h).1, h]
    simpa using hg
  · rw [List.getElem?_set_ne hij]
theorem fileF_set {l : List Window} {i : Nat} {f g : Window} (h : l[i]? = some f) (hn : g.id = f.id) (hg : g.gone = f.gone) (id : Int) : fileF (l.set i g) id = fileF l id := by
  unfold fileF
  rw [idxW_set h hn, gone_set h hg]
theorem fileF_at {l : List Window} {n k : Int} {i : Nat} (h : idxW l n = (i : Int)) (hn : 1 ≤ n) (h1 : 1 ≤ k) (h2 : k ≤ 5) : fileF l (16 * n + k) = some ⟨16 * n + k, nameK k, modeK k, (i : Int), k⟩ := by
  have e1 : divI (16 * n + k) 16 = n := by unfold divI; omega
  have e2 : modI (16 * n + k) 16 = k := by unfold modI; omega
  unfold fileF
  rw [if_neg (by omega), if_neg (by omega), if_neg (by omega), e1, e2, h, if_neg (by rintro (h | h | h); omega; omega; omega), if_neg (by omega)]
-- WindowRight
theorem lr_says {w : Windows} (hs : w.l.length * 104 ≤ 140737488351232) : Says 3 [.agg w.v] := by
  refine run_of (lp := lpOf []) (ct := ctOf [(8, smCon), (10, rightCon), (11, rightCon), (9, okCon)]) (by omega)
    (fun k hk => ctOf_ok (ctOf_cons (sm_con (by omega)) (ctOf_cons (wr_con (by omega)) (ctOf_cons (rr_con (by omega)) (ctOf_cons (ok_con (by omega)) (ctOf_nil _)))))) ?_
  obtain ⟨n, f, l⟩ := w
  refine cast (lr_vc n f (windowV l) fun r out => r = .bool true ∧ out = []).symm ?_
  have tt : (V.bool true = V.bool true ∧ ([] : List Bk) = []) := ⟨rfl, rfl⟩
  refine ⟨l, rfl, fun b hb => ?_⟩
  rw [br_iff]; refine ⟨fun _ => tt, fun g => ?_⟩
  have hs := hb (by simpa [notB] using g)
  have hsm : smallL l := ⟨by omega, fun x hx => by have := hs.2 x hx; omega⟩
  refine ⟨l, rfl, hsm, l, rfl, hsm, ?_⟩
  rw [br_iff]; exact ⟨fun _ => tt, fun g => by simp [eqB] at g⟩
-- WindowBlocks
theorem feed_nl (l : Line) (h : l.ready = []) : ∃ z, (feedF l [10]).1.ready = [z] := by
  have e : feedF l [10] = ((typeF l 10).1, (typeF l 10).2) := by simp [feedF]
  rw [e]
  unfold typeF
  split
  · rw [if_pos (by rw [h]; simp)]; exact ⟨_, by simp only [h]; rfl⟩
  · rw [if_neg (by omega), if_pos (.inl rfl), if_pos (by rw [h]; simp)]; exact ⟨_, by simp only [h]; rfl⟩
theorem lb_says {w : Windows} {id cnt : Int} (hid : id ≤ 9223372036854775807) : Says 6 [.agg w.v, .int .i64 id, .int .i64 cnt] := by
  refine run_of (lp := lpOf []) (ct := ctOf [(8, smCon), (11, rightCon), (9, okCon), (15, wreadCon), (18, focusCon), (14, wtypeCon), (13, sameCon)]) (by omega)
    (fun k hk => ctOf_ok (ctOf_cons (sm_con (by omega)) (ctOf_cons (rr_con (by omega)) (ctOf_cons (ok_con (by omega)) (ctOf_cons (re_con (by omega)) (ctOf_cons (fo_con (by omega)) (ctOf_cons (wt_con (by omega)) (ctOf_cons (ss_con (by omega)) (ctOf_nil _))))))))) ?_
  obtain ⟨n, f, l⟩ := w
  refine cast (lb_vc n f (windowV l) id cnt fun r out => r = .bool true ∧ out = []).symm ?_
  have tt : (V.bool true = V.bool true ∧ ([] : List Bk) = []) := ⟨rfl, rfl⟩
  refine ⟨l, rfl, fun b hb => ?_⟩
  rw [br_iff]; refine ⟨fun _ => tt, fun g => ?_⟩
  have hs := hb (by simpa [notB] using g)
  have hsm : smallL l := ⟨by omega, fun x hx => by have := hs.2 x hx; omega⟩
  refine ⟨l, rfl, hsm, ?_⟩
  rw [br_iff]; refine ⟨fun _ => tt, fun g2 => ?_⟩
  have hRb : rightW ⟨n, f, l⟩ = true := by simpa [notB] using g2
  have hR := (rightW_iff _).1 hRb
  refine ⟨l, rfl, hRb, hid, ?_⟩
  rw [br_iff]; refine ⟨fun _ => tt, fun g3 => ?_⟩
  have g3 : (readW ⟨n, f, l⟩ id 0 cnt).2.2.1 = true := by simpa [notB] using g3
  -- a read that is blocked
  obtain ⟨p, i, x, hp, hmode, hcnt, hfile, hwin, e2, e3, e5, hrd, hgone, hidx, hid16⟩ : ∃ (p : Place) (i : Nat) (x : Window), fileF l id = some p ∧ p.mode < 2147483648 ∧ 0 ≤ cnt ∧ p.file = 1 ∧ p.window = (i : Int) ∧ l[i]? = some x ∧ i < l.length ∧ wAt l (i : Int) = x ∧
      (readF x.line (min cnt 65536)).2.2 = true ∧ x.gone = false ∧ x.id = id / 16 ∧ 16 ≤ id := by
    unfold readW at g3
    split at g3
    · cases g3
    rename_i p hp
    split at g3
    · cases g3
    rename_i hm
    split at g3
    · cases g3
    rename_i hc
    split at g3
    rotate_left
    · cases g3
    rename_i hf
    rcases file_cases hp with ⟨_, rfl⟩ | ⟨_, rfl⟩ | ⟨i, x, q1, q2, q3, q4, q5, q6, q7, q8, q9, q10, q11, _⟩
    · simp at hf
    · simp at hf
    rw [q10] at g3
    simp only at g3
    rw [q6] at g3
    split at g3
    · rename_i hr
      exact ⟨p, i, x, hp, by omega, by omega, hf, q10, q3, q4, q6, hr, by simpa using g3, q5, q1⟩
    · cases g3
  have eR : readW ⟨n, f, l⟩ id 0 cnt = (⟨n, f, l⟩, [], true, 0) := by
    unfold readW
    simp only [hp]
    rw [if_neg (by omega), if_neg (by omega), if_pos hfile, hwin, e5, if_pos hrd, hgone]
    rfl
  rw [eR]
  have hready : x.line.ready = [] := by
    unfold readF at hrd
    split at hrd
    · assumption
    · split at hrd <;> cases hrd
  have ei : ∀ a : Int, eqI a a = true := fun a => by simp [eqI]
  have es : ∀ a : List UInt8, eqS a a = true := fun a => by simp [eqS, strEq]
  dsimp only
  rw [ei, es]
  refine ⟨l, rfl, rfl, hsm, rfl, rfl, ?_⟩
  rw [br_iff]; refine ⟨fun g => by simp only [br_iff, need_iff, andB_t, andB_f, orB_t, orB_f, notB_t, notB_f, leI_t, leI_f, ltI_t, ltI_f, eqI_t, eqI_f, leN_t, leN_f, eqN_t, eqN_f, eqS_t, eqS_f, eqB_t, eqB_f, catOk_t, leC_t] at g; omega, fun _ => ⟨l, rfl, hsm, ?_⟩⟩
  have e1 : quoI .i64 id 16 = id / 16 := quoI_i64 (by omega) hid (by omega)
  have hix := idxW_asc hR.asc e2
  have hseen : seenW l (id / 16) = true := by rw [← hidx, seenW_asc hR.asc e2, hgone]; rfl
  have eFo : focusF ⟨n, f, l⟩ (id / 16) = (⟨n, id / 16, l⟩, 0) := by unfold focusF; rw [if_pos hseen]
  rw [e1, eFo]
  dsimp only
  have hR2 : RightW ⟨n, id / 16, l⟩ := by have := focus_right hR (id / 16); rw [eFo] at this; exact this
  rw [ei]
  have e10 : (ByteArray.mk #[10]).data.toList = ([10] : List UInt8) := rfl
  have eT : typeW ⟨n, id / 16, l⟩ [10] = ⟨n, id / 16, l.set i (feedW x [10])⟩ := by
    unfold typeW
    dsimp only
    rw [← hidx, hix, if_neg (by omega), e5]
    unfold setW; rw [Int.toNat_natCast]
  have hR3 : RightW ⟨n, id / 16, l.set i (feedW x [10])⟩ := by have := type_right hR2 [10]; rw [eT] at this; exact this
  refine ⟨l, rfl, (rightW_iff _).2 hR2, by omega, ?_⟩
  rw [eT]
  refine ⟨l.set i (feedW x [10]), rfl, (rightW_iff _).2 hR3, hid, ?_⟩
  obtain ⟨z, hz⟩ := feed_nl x.line hready
  have hp3 : fileF (l.set i (feedW x [10])) id = some p := (fileF_set (g := feedW x [10]) e2 (showF_id _ _) (showF_gone _ _) id).trans hp
  have hw3 : wAt (l.set i (feedW x [10])) (i : Int) = feedW x [10] := wAt_nat (by simp [e3])
  have hline : (feedW x [10]).line = (feedF x.line [10]).1 := by unfold feedW showF; dsimp only
  have hrd3 : ∃ l2 s2, readF (feedF x.line [10]).1 (min cnt 65536) = (l2, s2, false) ∧ (s2.length : Int) ≤ cnt := by
    generalize hq : (feedF x.line [10]).1 = q at hz
    obtain ⟨r4, t4, rd4⟩ := q
    simp only at hz
    subst hz
    rw [readF_cons]
    have := readN_le (min cnt 65536) z
    have hN : (readN (min cnt 65536) z : Int) ≤ cnt := by unfold readN; omega
    split
    · rename_i hh
      exact ⟨_, _, rfl, by omega⟩
    · exact ⟨_, _, rfl, by rw [List.length_take]; omega⟩
  obtain ⟨l2, s2, hrd3, hs2⟩ := hrd3
  have eR3 : readW ⟨n, id / 16, l.set i (feedW x [10])⟩ id 0 cnt = (setW ⟨n, id / 16, l.set i (feedW x [10])⟩ (i : Int) { feedW x [10] with line := l2 }, s2, false, 0) := by
    unfold readW
    simp only [hp3]
    rw [if_neg (by omega), if_neg (by omega), if_pos hfile, hwin, hw3, hline, hrd3]
    rfl
  rw [eR3]
  dsimp only
  rw [ei]
  have : leI (lenS s2) (maxI cnt 0) = true := by simp only [br_iff, need_iff, andB_t, andB_f, orB_t, orB_f, notB_t, notB_f, leI_t, leI_f, ltI_t, ltI_f, eqI_t, eqI_f, leN_t, leN_f, eqN_t, eqN_f, eqS_t, eqS_f, eqB_t, eqB_f, catOk_t, leC_t, lenS]; unfold maxI; omega
  rw [this]
  exact tt
end Go.Proofs.YtdbbpibfejchfaaDoor
namespace Go.Proofs.YtdbbpibfejchfaaDoor
open Go.RowKit
set_option maxRecDepth 100000
set_option linter.unusedVariables false
set_option linter.unusedSimpArgs false
theorem feedF_line {s : List UInt8} (hs : s.length ≤ 1024) (ht : textOk s = true) : feedF lineZ (s ++ [10]) = (⟨false, [], [s ++ [10]]⟩, s ++ [10]) := by
  rw [feedF_snoc, feedF_pr s (l := lineZ) rfl ht (by simp [lineZ]; omega)]
  have : typeF (⟨false, s, []⟩ : Line) ((10 : UInt8).toNat : Int) = (⟨false, [], [s ++ [10]]⟩, [10]) := by
    unfold typeF
    rw [if_neg (by simp), if_neg (by decide), if_pos (by decide), if_pos (by simp)]
    rfl
  simp only [lineZ, List.nil_append]
  rw [this]
theorem text_byte {t : List UInt8} : ∀ {k : Nat}, k ≤ t.length → (∀ j, j < k → 32 ≤ atS t (j : Int) ∧ atS t (j : Int) ≤ 126) → textOk (t.take k) = true
  | 0, _, _ => rfl
  | k + 1, hk, h => by
    rw [textOk_step (by omega), text_byte (by omega) (fun j hj => h j (by omega))]
    have := h k (by omega)
    simp only [prB]
    simp; omega
def newW (n : Int) (line : Line) (t : List UInt8) : Window := ⟨n, [110, 101, 119], line, t, 0, false⟩
theorem typed_plain {w : Windows} (hR : RightW w) {s : List UInt8} (hs : s.length ≤ 200) (ht : textOk s = true) (he : (makeF w [110, 101, 119]).2.2 = 0) :
    (makeF w [110, 101, 119]).1 = ⟨w.next + 1, w.next, w.l ++ [newW w.next lineZ []]⟩ ∧ (makeF w [110, 101, 119]).2.1 = w.next ∧
    typeW ⟨w.next + 1, w.next, w.l ++ [newW w.next lineZ []]⟩ (s ++ [10]) = ⟨w.next + 1, w.next, w.l ++ [newW w.next ⟨false, [], [s ++ [10]]⟩ (s ++ [10])]⟩ ∧
    readW ⟨w.next + 1, w.next, w.l ++ [newW w.next ⟨false, [], [s ++ [10]]⟩ (s ++ [10])]⟩ (16 * w.next + 1) 0 4096 = (⟨w.next + 1, w.next, w.l ++ [newW w.next lineZ (s ++ [10])]⟩, s ++ [10], false, 0) ∧
    readW ⟨w.next + 1, w.next, w.l ++ [newW w.next lineZ (s ++ [10])]⟩ (16 * w.next + 4) 0 4096 = (⟨w.next + 1, w.next, w.l ++ [newW w.next lineZ (s ++ [10])]⟩, s ++ [10], false, 0) ∧
    readW ⟨w.next + 1, w.next, w.l ++ [newW w.next lineZ (s ++ [10])]⟩ (16 * w.next + 1) 0 4096 = (⟨w.next + 1, w.next, w.l ++ [newW w.next lineZ (s ++ [10])]⟩, [], true, 0) := by
  have h0 := hR.next0
  have em : makeF w [110, 101, 119] = (⟨w.next + 1, w.next, w.l ++ [newW w.next lineZ []]⟩, w.next, 0) := by
    unfold makeF at he ⊢
    rw [if_neg (by simp)] at he ⊢
    split at he
    · cases he
    · rw [if_neg (by assumption)]; rfl
  have hidx : ∀ line t, idxW (w.l ++ [newW w.next line t]) w.next = (w.l.length : Int) := by
    intro line t
    refine idxW_at (f := newW w.next line t) (by simp) rfl fun j g hj hg => ?_
    rw [List.getElem?_append_left hj] at hg
    have := hR.ids g (List.mem_of_getElem? hg)
    omega
  have hat : ∀ line t, wAt (w.l ++ [newW w.next line t]) (w.l.length : Int) = newW w.next line t := fun line t => wAt_nat (by simp)
  have hset : ∀ line t line2 t2, (w.l ++ [newW w.next line t]).set w.l.length (newW w.next line2 t2) = w.l ++ [newW w.next line2 t2] := fun line t line2 t2 => by
    rw [List.set_append_right _ _ (Nat.le_refl _), Nat.sub_self]; rfl
  have hread : readF ⟨false, [], [s ++ [10]]⟩ (min 4096 65536) = (lineZ, s ++ [10], false) := by
    rw [readF_cons, if_pos (by unfold readN; simp; omega)]; rfl
  refine ⟨by rw [em], by rw [em], ?_, ?_, ?_, ?_⟩
  · unfold typeW
    simp only
    rw [hidx, if_neg (by omega), hat]
    have : feedW (newW w.next lineZ []) (s ++ [10]) = newW w.next ⟨false, [], [s ++ [10]]⟩ (s ++ [10]) := by
      unfold feedW
      rw [show (newW w.next lineZ []).line = lineZ from rfl, feedF_line (by omega) ht]
      unfold showF newW
      simp only [List.nil_append]
      have : (s ++ [10]).length - 65536 = 0 := by simp; omega
      rw [this, List.drop_zero]
    rw [this]
    unfold setW
    simp only [Int.toNat_natCast]
    rw [hset]
  · unfold readW
    simp only
    rw [fileF_at (hidx _ _) h0 (by omega) (by omega)]
    simp only
    rw [if_neg (by decide), if_neg (by omega), if_pos trivial, hat, show (newW w.next ⟨false, [], [s ++ [10]]⟩ (s ++ [10])).line = ⟨false, [], [s ++ [10]]⟩ from rfl, hread]
    simp only
    unfold setW
    simp only [Int.toNat_natCast]
    have := hset ⟨false, [], [s ++ [10]]⟩ (s ++ [10]) lineZ (s ++ [10])
    unfold newW at this ⊢
    simp only [this]
    rfl
  · unfold readW
    simp only
    rw [fileF_at (hidx _ _) h0 (by omega) (by omega)]
    simp only
    rw [if_neg (by decide), if_neg (by omega), if_neg (by omega)]
    unfold contF
    simp only
    rw [if_neg (by omega), if_neg (by omega), if_pos trivial, hat]
    have : List.take (min (4096 : Int) 65536).toNat (List.drop (0 : Int).toNat (newW w.next lineZ (s ++ [10])).text) = s ++ [10] := by
      show List.take 4096 (List.drop 0 (s ++ [10])) = s ++ [10]
      rw [List.drop_zero]
      exact List.take_of_length_le (by simp; omega)
    rw [this]
  · unfold readW
    simp only
    rw [fileF_at (hidx _ _) h0 (by omega) (by omega)]
    simp only
    rw [if_neg (by decide), if_neg (by omega), if_pos trivial, hat]
    rfl
theorem lt_says {w : Windows} {s : List UInt8} : Says 4 [.agg w.v, .str s] := by
  refine run_of (lp := lpOf [(4, ltL fun _ _ x m => ∃ k : Nat, x = ⟨(k : Int)⟩ ∧ k + m = s.length ∧ ∀ j, j < k → 32 ≤ atS s (j : Int) ∧ atS s (j : Int) ≤ 126)])
    (ct := ctOf [(8, smCon), (11, rightCon), (9, okCon), (12, makeCon), (14, wtypeCon), (15, wreadCon), (13, sameCon)]) (by omega)
    (fun k hk => ctOf_ok (ctOf_cons (sm_con (by omega)) (ctOf_cons (rr_con (by omega)) (ctOf_cons (ok_con (by omega)) (ctOf_cons (mk_con (by omega)) (ctOf_cons (wt_con (by omega)) (ctOf_cons (re_con (by omega)) (ctOf_cons (ss_con (by omega)) (ctOf_nil _))))))))) ?_
  obtain ⟨n, f, l⟩ := w
  refine cast (lt_vc n f (windowV l) s (fun _ _ x m => ∃ k : Nat, x = ⟨(k : Int)⟩ ∧ k + m = s.length ∧ ∀ j, j < k → 32 ≤ atS s (j : Int) ∧ atS s (j : Int) ≤ 126) fun r out => r = .bool true ∧ out = []).symm ?_
  have tt : (V.bool true = V.bool true ∧ ([] : List Bk) = []) := ⟨rfl, rfl⟩
  refine ⟨l, rfl, fun b hb => ?_⟩
  rw [br_iff]; refine ⟨fun _ => tt, fun g => ?_⟩
  have hs := hb (by simpa [notB] using g)
  have hsm : smallL l := ⟨by omega, fun x hx => by have := hs.2 x hx; omega⟩
  rw [br_iff]; refine ⟨fun _ => tt, fun g1 => ?_⟩
  have g1 : s.length ≤ 200 := by simp only [br_iff, need_iff, andB_t, andB_f, orB_t, orB_f, notB_t, notB_f, leI_t, leI_f, ltI_t, ltI_f, eqI_t, eqI_f, leN_t, leN_f, eqN_t, eqN_f, eqS_t, eqS_f, eqB_t, eqB_f, catOk_t, leC_t, lenS] at g1; omega
  refine ⟨l, rfl, hsm, ?_⟩
  rw [br_iff]; refine ⟨fun _ => tt, fun g2 => ?_⟩
  have hRb : rightW ⟨n, f, l⟩ = true := by simpa [notB] using g2
  have hR := (rightW_iff _).1 hRb
  have h0 := hR.next0
  have h1 := hR.next1
  dsimp only at h0 h1
  refine ⟨⟨s.length, by omega, 0, rfl, by omega, fun j hj => by omega⟩, ?_⟩
  rintro _ m ⟨k, rfl, hk, hp⟩
  dsimp only
  rw [br_iff]; refine ⟨fun q => ?_, fun q => ?_⟩
  · have hlt : k < s.length := by simp only [br_iff, need_iff, andB_t, andB_f, orB_t, orB_f, notB_t, notB_f, leI_t, leI_f, ltI_t, ltI_f, eqI_t, eqI_f, leN_t, leN_f, eqN_t, eqN_f, eqS_t, eqS_f, eqB_t, eqB_f, catOk_t, leC_t, lenS] at q; omega
    have hn : andB (leI 0 (k : Int)) (ltI (k : Int) (lenS s)) = true := by simp only [br_iff, need_iff, andB_t, andB_f, orB_t, orB_f, notB_t, notB_f, leI_t, leI_f, ltI_t, ltI_f, eqI_t, eqI_f, leN_t, leN_f, eqN_t, eqN_f, eqS_t, eqS_f, eqB_t, eqB_f, catOk_t, leC_t, lenS]; omega
    rw [hn, need_tt, need_tt]
    rw [br_iff]; refine ⟨fun _ => tt, fun g3 => ?_⟩
    rw [br_iff]; refine ⟨fun _ => tt, fun g4 => ⟨by trivial, m - 1, by omega, k + 1, by rw [addI_i64 (by omega) (by omega)]; rfl, by omega, fun j hj => ?_⟩⟩
    simp only [br_iff, need_iff, andB_t, andB_f, orB_t, orB_f, notB_t, notB_f, leI_t, leI_f, ltI_t, ltI_f, eqI_t, eqI_f, leN_t, leN_f, eqN_t, eqN_f, eqS_t, eqS_f, eqB_t, eqB_f, catOk_t, leC_t] at g3 g4
    rcases Nat.lt_or_ge j k with h | h
    · exact hp j h
    · obtain rfl : j = k := by omega
      omega
  · have : k = s.length := by simp only [br_iff, need_iff, andB_t, andB_f, orB_t, orB_f, notB_t, notB_f, leI_t, leI_f, ltI_t, ltI_f, eqI_t, eqI_f, leN_t, leN_f, eqN_t, eqN_f, eqS_t, eqS_f, eqB_t, eqB_f, catOk_t, leC_t, lenS] at q; omega
    subst this
    have ht := text_byte (Nat.le_refl _) hp
    rw [List.take_length] at ht
    refine ⟨l, rfl, hsm, ⟨by omega, by omega⟩, ?_⟩
    have en : (ByteArray.mk #[110, 101, 119]).data.toList = ([110, 101, 119] : List UInt8) := rfl
    have en10 : (ByteArray.mk #[10]).data.toList = ([10] : List UInt8) := rfl
    simp only [en]
    rw [br_iff]; refine ⟨fun q2 => ?_, fun q2 => ?_⟩
    · have q2 : ¬ (makeF ⟨n, f, l⟩ [110, 101, 119]).2.2 = 0 := by simpa only [br_iff, need_iff, andB_t, andB_f, orB_t, orB_f, notB_t, notB_f, leI_t, leI_f, ltI_t, ltI_f, eqI_t, eqI_f, leN_t, leN_f, eqN_t, eqN_f, eqS_t, eqS_f, eqB_t, eqB_f, catOk_t, leC_t] using q2
      have e : (makeF ⟨n, f, l⟩ [110, 101, 119]).1 = ⟨n, f, l⟩ := by
        unfold makeF at q2 ⊢
        split
        · rfl
        rename_i h2
        rw [if_neg h2] at q2
        split
        · rfl
        rename_i h3
        rw [if_neg h3] at q2
        exact absurd rfl q2
      rw [e]
      exact ⟨l, rfl, rfl, hsm, rfl, rfl, (⟨trivial, trivial⟩ : True ∧ True)⟩
    · have q2 : (makeF ⟨n, f, l⟩ [110, 101, 119]).2.2 = 0 := by simpa only [br_iff, need_iff, andB_t, andB_f, orB_t, orB_f, notB_t, notB_f, leI_t, leI_f, ltI_t, ltI_f, eqI_t, eqI_f, leN_t, leN_f, eqN_t, eqN_f, eqS_t, eqS_f, eqB_t, eqB_f, catOk_t, leC_t] using q2
      obtain ⟨p1, p2, p3, p4, p5, p6⟩ := typed_plain hR g1 ht q2
      have hR1 := make_right hR [110, 101, 119]
      rw [p1] at hR1
      have hR2 := type_right hR1 (s ++ [10])
      rw [p3] at hR2
      have hR3 := read_right hR2 (16 * n + 1) 0 4096
      rw [p4] at hR3
      dsimp only at p1 p2 p3 p4 p5 p6 hR1 hR2 hR3
      have hc : catOk s [10] = true := by simp only [br_iff, need_iff, andB_t, andB_f, orB_t, orB_f, notB_t, notB_f, leI_t, leI_f, ltI_t, ltI_f, eqI_t, eqI_f, leN_t, leN_f, eqN_t, eqN_f, eqS_t, eqS_f, eqB_t, eqB_f, catOk_t, leC_t, List.length_singleton]; omega
      have e10 : catS s (ByteArray.mk #[10]).data.toList = s ++ [10] := rfl
      have e10' : catS s [10] = s ++ [10] := rfl
      have a1 : addI .i64 (mulI .i64 16 n) 1 = 16 * n + 1 := by rw [mulI_i64 (by omega) (by omega), addI_i64 (by omega) (by omega)]
      have a4 : addI .i64 (mulI .i64 16 n) 4 = 16 * n + 4 := by rw [mulI_i64 (by omega) (by omega), addI_i64 (by omega) (by omega)]
      have ei : ∀ a : Int, eqI a a = true := fun a => by simp [eqI]
      have es : ∀ a : List UInt8, eqS a a = true := fun a => by simp [eqS, strEq]
      rw [hc, need_tt]
      refine ⟨l ++ [newW n lineZ []], by rw [p1], by rw [p1]; exact (rightW_iff _).2 hR1, by rw [e10']; simp; omega, ?_⟩
      simp only [p1, p2, e10, e10', p3, a1, a4]
      refine ⟨_, rfl, (rightW_iff _).2 hR2, by omega, ?_⟩
      simp only [p4]
      refine ⟨_, rfl, (rightW_iff _).2 hR3, by omega, _, rfl, (rightW_iff _).2 hR3, by omega, ?_⟩
      simp only [p5, p6, need_tt, ei, es, hc]
      exact (⟨trivial, trivial⟩ : True ∧ True)
-- apart
theorem apart_set {l : List Window} (hasc : l.Pairwise (fun a b => a.id < b.id)) {i : Nat} {f g : Window} (hf : l[i]? = some f) {x y : Window} (hx : x ∈ l) (hne : x.id ≠ f.id) (hy : y ∈ l.set i g) (he : y.id = x.id) (hn : g.id = f.id) : y = x := by
  rcases List.mem_or_eq_of_mem_set hy with hy | rfl
  · obtain ⟨a, ha⟩ := List.mem_iff_getElem?.1 hx
    obtain ⟨b, hb⟩ := List.mem_iff_getElem?.1 hy
    have e1 := idxW_asc hasc ha
    have e2 := idxW_asc hasc hb
    rw [he, e1] at e2
    obtain rfl : a = b := by omega
    exact Option.some.inj (hb.symm.trans ha)
  · exact absurd (he.symm.trans hn) hne
theorem same_id {l : List Window} (hasc : l.Pairwise (fun a b => a.id < b.id)) {x y : Window} (hx : x ∈ l) (hy : y ∈ l) (he : y.id = x.id) : y = x := by
  obtain ⟨a, ha⟩ := List.mem_iff_getElem?.1 hx
  obtain ⟨b, hb⟩ := List.mem_iff_getElem?.1 hy
  have e1 := idxW_asc hasc ha
  have e2 := idxW_asc hasc hb
  rw [he, e1] at e2
  obtain rfl : a = b := by omega
  exact Option.some.inj (hb.symm.trans ha)
def Apart (l l' : List Window) (own : Int) : Prop := ∀ x ∈ l, x.id ≠ own → ∀ y ∈ l', y.id = x.id → y = x
theorem apart_type {w : Windows} (h : RightW w) (s : List UInt8) : Apart w.l (typeW w s).l w.focus := by
  intro x hx hne y hy he
  unfold typeW at hy
  split at hy
  · exact same_id h.asc hx hy he
  · obtain ⟨i, z, e1, e2, e3, e4, e5⟩ := idxW_found (l := w.l) (id := w.focus) (by omega)
    rw [e1, e5] at hy
    unfold setW at hy
    simp only [Int.toNat_natCast] at hy
    exact apart_set h.asc e2 hx (by rw [e4]; exact hne) hy he (showF_id _ _)
theorem apart_read {w : Windows} (h : RightW w) (id off cnt : Int) : Apart w.l (readW w id off cnt).1.l (id / 16) := by
  intro x hx hne y hy he
  unfold readW at hy
  split at hy
  · exact same_id h.asc hx hy he
  rename_i p hp
  split at hy
  · exact same_id h.asc hx hy he
  split at hy
  · exact same_id h.asc hx hy he
  split at hy
  · rename_i hf
    split at hy
    · exact same_id h.asc hx hy he
    · rcases file_cases hp with ⟨_, rfl⟩ | ⟨_, rfl⟩ | ⟨i, z, q1, q2, q3, q4, q5, q6, q7, q8, q9, q10, q11, _⟩
      · simp at hf
      · simp at hf
      rw [q10, q6] at hy
      unfold setW at hy
      simp only [Int.toNat_natCast] at hy
      exact apart_set h.asc q3 hx (by rw [q5]; exact hne) hy he rfl
  · exact same_id h.asc hx hy he
theorem apart_deleted {w : Windows} (h : RightW w) {i : Nat} {z : Window} (hz : w.l[i]? = some z) : Apart w.l (deletedF w (i : Int)).l z.id := by
  intro x hx hne y hy he
  unfold deletedF setW delW at hy
  simp only [wAt_nat hz, Int.toNat_natCast] at hy
  split at hy
  · split at hy
    · exact apart_set h.asc hz hx hne hy he rfl
    · exact same_id h.asc hx (List.mem_of_mem_eraseIdx hy) he
  · split at hy
    · exact apart_set h.asc hz hx hne hy he rfl
    · exact same_id h.asc hx (List.mem_of_mem_eraseIdx hy) he
theorem apart_control {w : Windows} (h : RightW w) {i : Nat} {z : Window} (hz : w.l[i]? = some z) (k : Int) (c : List UInt8) : Apart w.l (controlF w (i : Int) k c).1.l z.id := by
  intro x hx hne y hy he
  unfold controlF at hy
  split at hy
  · unfold setW at hy
    simp only [wAt_nat hz, Int.toNat_natCast] at hy
    exact apart_set h.asc hz hx hne hy he rfl
  split at hy
  · unfold setW at hy
    simp only [wAt_nat hz, Int.toNat_natCast] at hy
    exact apart_set h.asc hz hx hne hy he rfl
  split at hy
  · exact same_id h.asc hx hy he
  split at hy
  · exact apart_deleted h hz x hx hne y hy he
  · exact same_id h.asc hx hy he
theorem apart_write {w : Windows} (h : RightW w) (id : Int) (data : List UInt8) : Apart w.l (writeW w id data).1.l (id / 16) := by
  intro x hx hne y hy he
  unfold writeW at hy
  split at hy
  · exact same_id h.asc hx hy he
  rename_i p hp
  split at hy
  · exact same_id h.asc hx hy he
  rename_i hm
  split at hy
  · unfold refocusF at hy
    split at hy
    · exact same_id h.asc hx hy he
    · split at hy
      · exact same_id h.asc hx hy he
      · exact same_id h.asc hx hy he
  rename_i hp2
  rcases file_cases hp with ⟨_, rfl⟩ | ⟨_, rfl⟩ | ⟨i, z, q1, q2, q3, q4, q5, q6, q7, q8, q9, q10, q11, _⟩
  · simp at hm
  · simp at hp2
  rw [q10, q6] at hy
  have hne' : x.id ≠ z.id := by rw [q5]; exact hne
  split at hy
  · exact same_id h.asc hx hy he
  split at hy
  · unfold setW at hy
    simp only [Int.toNat_natCast] at hy
    exact apart_set h.asc q3 hx hne' hy he (showF_id _ _)
  split at hy
  · split at hy
    · exact same_id h.asc hx hy he
    · unfold setW at hy
      simp only [Int.toNat_natCast] at hy
      exact apart_set h.asc q3 hx hne' hy he rfl
  split at hy
  · exact same_id h.asc hx hy he
  split at hy
  · exact same_id h.asc hx hy he
  · exact apart_control h q3 _ _ x hx hne' y hy he
end Go.Proofs.YtdbbpibfejchfaaDoor
namespace Go.Proofs.YtdbbpibfejchfaaDoor
open Go.RowKit
set_option maxRecDepth 100000
set_option linter.unusedVariables false
set_option linter.unusedSimpArgs false
theorem la_says {w : Windows} {o : Op} (ho : o.id ≤ 9223372036854775807 ∧ -9223372036854775808 ≤ o.id ∧ o.mode ≤ 9223372036854775807 ∧ -9223372036854775808 ≤ o.mode) : Says 5 [.agg w.v, .agg o.v] := by
  obtain ⟨n, f, l⟩ := w
  obtain ⟨k, a, m, off, c, t⟩ := o
  obtain ⟨ha1, ha0, hm1, hm0⟩ := ho
  dsimp only at ha1 ha0 hm1 hm0
  let II : laC → laX → laX → Nat → Prop := fun _ _ x m => ∃ k : Nat, x = ⟨(k : Int)⟩ ∧ k + m = l.length
  let JJ : lkC → lkX → lkX → Nat → Prop := fun c _ x m => ∃ k : Nat, x = ⟨(k : Int)⟩ ∧ k + m = c.ys.length
  refine run_of (lp := lpOf [(8, laL II), (12, lkL JJ)])
    (ct := ctOf [(8, smCon), (11, rightCon), (9, okCon), (16, didCon), (17, sameLineCon)]) (by omega)
    (fun k hk => ctOf_ok (ctOf_cons (sm_con (by omega)) (ctOf_cons (rr_con (by omega)) (ctOf_cons (ok_con (by omega)) (ctOf_cons (did_con (by omega)) (ctOf_cons (sl_con (by omega)) (ctOf_nil _))))))) ?_
  refine cast (la_vc n f (windowV l) k a m off c t II JJ fun r out => r = .bool true ∧ out = []).symm ?_
  have tt : (V.bool true = V.bool true ∧ ([] : List Bk) = []) := ⟨rfl, rfl⟩
  refine ⟨l, rfl, fun b hb => ?_⟩
  rw [br_iff]; refine ⟨fun _ => tt, fun g => ?_⟩
  have hs := hb (by simpa [notB] using g)
  have hsm : smallL l := ⟨by omega, fun x hx => by have := hs.2 x hx; omega⟩
  rw [br_iff]; refine ⟨fun _ => tt, fun g1 => ?_⟩
  have g1 : t.length ≤ 70000 := by simp only [br_iff, need_iff, andB_t, andB_f, orB_t, orB_f, notB_t, notB_f, leI_t, leI_f, ltI_t, ltI_f, eqI_t, eqI_f, leN_t, leN_f, eqN_t, eqN_f, eqS_t, eqS_f, eqB_t, eqB_f, catOk_t, leC_t, lenS] at g1; omega
  refine ⟨l, rfl, hsm, ?_⟩
  rw [br_iff]; refine ⟨fun _ => tt, fun g2 => ?_⟩
  have hRb : rightW ⟨n, f, l⟩ = true := by simpa [notB] using g2
  have hR := (rightW_iff _).1 hRb
  have main : (k = 3 ∨ k = 5 ∨ k = 6) → la_vc_1 n f (windowV l) k a m off c t II JJ fun r out => r = .bool true ∧ out = [] := by
    intro hk
    have hap : (k = 3 → Apart l (didF ⟨n, f, l⟩ ⟨k, a, m, off, c, t⟩).1.l f) ∧ (k ≠ 3 → Apart l (didF ⟨n, f, l⟩ ⟨k, a, m, off, c, t⟩).1.l (quoI .i64 a 16)) := by
      refine ⟨fun h => ?_, fun h => ?_⟩
      · subst h
        exact apart_type hR t
      · by_cases h0 : 0 ≤ a
        · rw [quoI_i64 h0 ha1 (by omega)]
          rcases hk with hk | hk | hk
          · exact absurd hk h
          · subst hk; exact apart_read hR a off c
          · subst hk; exact apart_write hR a t
        · have hno : fileF l a = none := by unfold fileF; rw [if_neg (by omega), if_neg (by omega), if_pos (by omega)]
          have e : (didF ⟨n, f, l⟩ ⟨k, a, m, off, c, t⟩).1.l = l := by
            rcases hk with hk | hk | hk
            · exact absurd hk h
            · subst hk
              show (readW ⟨n, f, l⟩ a off c).1.l = l
              unfold readW; simp only [hno]
            · subst hk
              show (writeW ⟨n, f, l⟩ a t).1.l = l
              unfold writeW; simp only [hno]
          rw [e]
          exact fun x hx _ y hy he => same_id hR.asc hx hy he
    have hRd := did_right hR ⟨k, a, m, off, c, t⟩
    unfold la_vc_1
    refine ⟨l, rfl, hRb, ha1, hm1, hm0, by omega, ?_⟩
    unfold la_vc_2 la_vc_3 la_vc_4 la_vc_5
    generalize didF ⟨n, f, l⟩ ⟨k, a, m, off, c, t⟩ = d at hap hRd ⊢
    obtain ⟨⟨n2, f2, l2⟩, dd⟩ := d
    dsimp only at hap hRd ⊢
    have hl2 := hRd.len
    dsimp only at hl2
    simp only [windowV_lenL]
    have ei : ∀ {a b : Int}, eqI a b = true → a = b := fun h => by simpa [eqI] using h
    rw [br_iff]; refine ⟨fun q => ?_, fun q => ?_⟩
    · have hap := hap.2 (by simpa only [br_iff, need_iff, andB_t, andB_f, orB_t, orB_f, notB_t, notB_f, leI_t, leI_f, ltI_t, ltI_f, eqI_t, eqI_f, leN_t, leN_f, eqN_t, eqN_f, eqS_t, eqS_f, eqB_t, eqB_f, catOk_t, leC_t] using q)
      refine ⟨⟨l.length, by omega, 0, rfl, by omega⟩, ?_⟩
      rintro _ m1 ⟨i, rfl, hi⟩
      dsimp only
      have ni : addI .i64 (i : Int) 1 = ((i + 1 : Nat) : Int) ∨ ¬ i < l.length := by
        by_cases h : i < l.length
        · left; rw [addI_i64 (by omega) (by omega)]; rfl
        · exact .inr h
      rw [br_iff]; refine ⟨fun hlt => ?_, fun _ => (⟨trivial, trivial⟩ : True ∧ True)⟩
      have hlt : i < l.length := by simp only [br_iff, need_iff, andB_t, andB_f, orB_t, orB_f, notB_t, notB_f, leI_t, leI_f, ltI_t, ltI_f, eqI_t, eqI_f, leN_t, leN_f, eqN_t, eqN_f, eqS_t, eqS_f, eqB_t, eqB_f, catOk_t, leC_t] at hlt; omega
      have gx : l[i]? = some l[i] := List.getElem?_eq_getElem hlt
      generalize l[i] = x at gx
      have rx := windowV_row gx
      have kx : okRow (windowV l) (Int.toNat (i : Int)) 8 = true := by simpa using windowV_ok (l := l) (i := i) hlt
      have nx : andB (leI 0 (i : Int)) (ltI (i : Int) (l.length : Int)) = true := by simp only [br_iff, need_iff, andB_t, andB_f, orB_t, orB_f, notB_t, notB_f, leI_t, leI_f, ltI_t, ltI_f, eqI_t, eqI_f, leN_t, leN_f, eqN_t, eqN_f, eqS_t, eqS_f, eqB_t, eqB_f, catOk_t, leC_t]; omega
      have hm := hsm.2 x (List.mem_of_getElem? gx)
      have nextI : II (laC.mk n f (windowV l) n2 f2 (windowV l2) (quoI .i64 a 16) (l.length : Int)) (laX.mk 0) (laX.mk (addI .i64 (i : Int) 1)) (m1 - 1) := ⟨i + 1, by rw [addI_i64 (by omega) (by omega)]; rfl, by omega⟩
      rw [need_iff, need_iff]
      refine ⟨nx, kx, ?_⟩
      try rw [rx]
      repeat apply Exists.intro
      refine ⟨rfl, ?_⟩
      refine ⟨⟨(windowV l2).length, by rw [windowV_len]; omega, 0, rfl, by simp⟩, ?_⟩
      rintro _ m2 ⟨j, rfl, hj⟩
      dsimp only at hj ⊢
      rw [windowV_len] at hj
      rw [br_iff]; refine ⟨fun hjl => ?_, fun _ => ⟨by trivial, m1 - 1, by omega, nextI⟩⟩
      have hjl : j < l2.length := by simp only [br_iff, need_iff, andB_t, andB_f, orB_t, orB_f, notB_t, notB_f, leI_t, leI_f, ltI_t, ltI_f, eqI_t, eqI_f, leN_t, leN_f, eqN_t, eqN_f, eqS_t, eqS_f, eqB_t, eqB_f, catOk_t, leC_t] at hjl; omega
      rw [br_iff]; refine ⟨fun hne => ?_, fun _ => ⟨by trivial, m1 - 1, by omega, nextI⟩⟩
      have hne : x.id ≠ quoI .i64 a 16 := by simpa only [br_iff, need_iff, andB_t, andB_f, orB_t, orB_f, notB_t, notB_f, leI_t, leI_f, ltI_t, ltI_f, eqI_t, eqI_f, leN_t, leN_f, eqN_t, eqN_f, eqS_t, eqS_f, eqB_t, eqB_f, catOk_t, leC_t] using hne
      have gy : l2[j]? = some l2[j] := List.getElem?_eq_getElem hjl
      generalize l2[j] = y at gy
      have ry := windowV_row gy
      have ky : okRow (windowV l2) (Int.toNat (j : Int)) 8 = true := by simpa using windowV_ok (l := l2) (i := j) hjl
      have ny : andB (leI 0 (j : Int)) (ltI (j : Int) (l2.length : Int)) = true := by simp only [br_iff, need_iff, andB_t, andB_f, orB_t, orB_f, notB_t, notB_f, leI_t, leI_f, ltI_t, ltI_f, eqI_t, eqI_f, leN_t, leN_f, eqN_t, eqN_f, eqS_t, eqS_f, eqB_t, eqB_f, catOk_t, leC_t]; omega
      rw [need_iff, need_iff]
      refine ⟨ny, ky, ?_⟩
      try rw [ry]
      repeat apply Exists.intro
      refine ⟨rfl, ?_⟩
      have nextJ : ∃ k : Nat, (⟨addI .i64 (j : Int) 1⟩ : lkX) = ⟨(k : Int)⟩ ∧ k + (m2 - 1) = (windowV l2).length := ⟨j + 1, by rw [addI_i64 (by omega) (by omega)]; rfl, by rw [windowV_len]; omega⟩
      rw [br_iff]; refine ⟨fun he => ?_, fun _ => ⟨by trivial, m2 - 1, by omega, nextJ⟩⟩
      have hxy := hap x (List.mem_of_getElem? gx) hne y (List.mem_of_getElem? gy) (ei he).symm
      subst hxy
      rw [br_iff]; refine ⟨fun h => by simp only [br_iff, need_iff, andB_t, andB_f, orB_t, orB_f, notB_t, notB_f, leI_t, leI_f, ltI_t, ltI_f, eqI_t, eqI_f, leN_t, leN_f, eqN_t, eqN_f, eqS_t, eqS_f, eqB_t, eqB_f, catOk_t, leC_t] at h; exact absurd rfl h, fun _ => ?_⟩
      rw [br_iff]; refine ⟨fun h => by simp only [br_iff, need_iff, andB_t, andB_f, orB_t, orB_f, notB_t, notB_f, leI_t, leI_f, ltI_t, ltI_f, eqI_t, eqI_f, leN_t, leN_f, eqN_t, eqN_f, eqS_t, eqS_f, eqB_t, eqB_f, catOk_t, leC_t] at h; exact absurd rfl h, fun _ => ?_⟩
      exact ⟨_, rfl, rfl, hm.1, rfl, rfl, by trivial, m2 - 1, by omega, nextJ⟩
    · have hap := hap.1 (by simpa only [br_iff, need_iff, andB_t, andB_f, orB_t, orB_f, notB_t, notB_f, leI_t, leI_f, ltI_t, ltI_f, eqI_t, eqI_f, leN_t, leN_f, eqN_t, eqN_f, eqS_t, eqS_f, eqB_t, eqB_f, catOk_t, leC_t] using q)
      refine ⟨⟨l.length, by omega, 0, rfl, by omega⟩, ?_⟩
      rintro _ m1 ⟨i, rfl, hi⟩
      dsimp only
      rw [br_iff]; refine ⟨fun hlt => ?_, fun _ => (⟨trivial, trivial⟩ : True ∧ True)⟩
      have hlt : i < l.length := by simp only [br_iff, need_iff, andB_t, andB_f, orB_t, orB_f, notB_t, notB_f, leI_t, leI_f, ltI_t, ltI_f, eqI_t, eqI_f, leN_t, leN_f, eqN_t, eqN_f, eqS_t, eqS_f, eqB_t, eqB_f, catOk_t, leC_t] at hlt; omega
      have gx : l[i]? = some l[i] := List.getElem?_eq_getElem hlt
      generalize l[i] = x at gx
      have rx := windowV_row gx
      have kx : okRow (windowV l) (Int.toNat (i : Int)) 8 = true := by simpa using windowV_ok (l := l) (i := i) hlt
      have nx : andB (leI 0 (i : Int)) (ltI (i : Int) (l.length : Int)) = true := by simp only [br_iff, need_iff, andB_t, andB_f, orB_t, orB_f, notB_t, notB_f, leI_t, leI_f, ltI_t, ltI_f, eqI_t, eqI_f, leN_t, leN_f, eqN_t, eqN_f, eqS_t, eqS_f, eqB_t, eqB_f, catOk_t, leC_t]; omega
      have hm := hsm.2 x (List.mem_of_getElem? gx)
      have nextI : II (laC.mk n f (windowV l) n2 f2 (windowV l2) f (l.length : Int)) (laX.mk 0) (laX.mk (addI .i64 (i : Int) 1)) (m1 - 1) := ⟨i + 1, by rw [addI_i64 (by omega) (by omega)]; rfl, by omega⟩
      rw [need_iff, need_iff]
      refine ⟨nx, kx, ?_⟩
      try rw [rx]
      repeat apply Exists.intro
      refine ⟨rfl, ?_⟩
      refine ⟨⟨(windowV l2).length, by rw [windowV_len]; omega, 0, rfl, by simp⟩, ?_⟩
      rintro _ m2 ⟨j, rfl, hj⟩
      dsimp only at hj ⊢
      rw [windowV_len] at hj
      rw [br_iff]; refine ⟨fun hjl => ?_, fun _ => ⟨by trivial, m1 - 1, by omega, nextI⟩⟩
      have hjl : j < l2.length := by simp only [br_iff, need_iff, andB_t, andB_f, orB_t, orB_f, notB_t, notB_f, leI_t, leI_f, ltI_t, ltI_f, eqI_t, eqI_f, leN_t, leN_f, eqN_t, eqN_f, eqS_t, eqS_f, eqB_t, eqB_f, catOk_t, leC_t] at hjl; omega
      rw [br_iff]; refine ⟨fun hne => ?_, fun _ => ⟨by trivial, m1 - 1, by omega, nextI⟩⟩
      have hne : x.id ≠ f := by simpa only [br_iff, need_iff, andB_t, andB_f, orB_t, orB_f, notB_t, notB_f, leI_t, leI_f, ltI_t, ltI_f, eqI_t, eqI_f, leN_t, leN_f, eqN_t, eqN_f, eqS_t, eqS_f, eqB_t, eqB_f, catOk_t, leC_t] using hne
      have gy : l2[j]? = some l2[j] := List.getElem?_eq_getElem hjl
      generalize l2[j] = y at gy
      have ry := windowV_row gy
      have ky : okRow (windowV l2) (Int.toNat (j : Int)) 8 = true := by simpa using windowV_ok (l := l2) (i := j) hjl
      have ny : andB (leI 0 (j : Int)) (ltI (j : Int) (l2.length : Int)) = true := by simp only [br_iff, need_iff, andB_t, andB_f, orB_t, orB_f, notB_t, notB_f, leI_t, leI_f, ltI_t, ltI_f, eqI_t, eqI_f, leN_t, leN_f, eqN_t, eqN_f, eqS_t, eqS_f, eqB_t, eqB_f, catOk_t, leC_t]; omega
      rw [need_iff, need_iff]
      refine ⟨ny, ky, ?_⟩
      try rw [ry]
      repeat apply Exists.intro
      refine ⟨rfl, ?_⟩
      have nextJ : ∃ k : Nat, (⟨addI .i64 (j : Int) 1⟩ : lkX) = ⟨(k : Int)⟩ ∧ k + (m2 - 1) = (windowV l2).length := ⟨j + 1, by rw [addI_i64 (by omega) (by omega)]; rfl, by rw [windowV_len]; omega⟩
      rw [br_iff]; refine ⟨fun he => ?_, fun _ => ⟨by trivial, m2 - 1, by omega, nextJ⟩⟩
      have hxy := hap x (List.mem_of_getElem? gx) hne y (List.mem_of_getElem? gy) (ei he).symm
      subst hxy
      rw [br_iff]; refine ⟨fun h => by simp only [br_iff, need_iff, andB_t, andB_f, orB_t, orB_f, notB_t, notB_f, leI_t, leI_f, ltI_t, ltI_f, eqI_t, eqI_f, leN_t, leN_f, eqN_t, eqN_f, eqS_t, eqS_f, eqB_t, eqB_f, catOk_t, leC_t] at h; exact absurd rfl h, fun _ => ?_⟩
      rw [br_iff]; refine ⟨fun h => by simp only [br_iff, need_iff, andB_t, andB_f, orB_t, orB_f, notB_t, notB_f, leI_t, leI_f, ltI_t, ltI_f, eqI_t, eqI_f, leN_t, leN_f, eqN_t, eqN_f, eqS_t, eqS_f, eqB_t, eqB_f, catOk_t, leC_t] at h; exact absurd rfl h, fun _ => ?_⟩
      exact ⟨_, rfl, rfl, hm.1, rfl, rfl, by trivial, m2 - 1, by omega, nextJ⟩
  rw [br_iff]; refine ⟨fun q1 => ?_, fun q1 => main (.inl (by simpa only [br_iff, need_iff, andB_t, andB_f, orB_t, orB_f, notB_t, notB_f, leI_t, leI_f, ltI_t, ltI_f, eqI_t, eqI_f, leN_t, leN_f, eqN_t, eqN_f, eqS_t, eqS_f, eqB_t, eqB_f, catOk_t, leC_t] using q1))⟩
  rw [br_iff]; refine ⟨fun q2 => ?_, fun q2 => main (.inr (.inl (by simpa only [br_iff, need_iff, andB_t, andB_f, orB_t, orB_f, notB_t, notB_f, leI_t, leI_f, ltI_t, ltI_f, eqI_t, eqI_f, leN_t, leN_f, eqN_t, eqN_f, eqS_t, eqS_f, eqB_t, eqB_f, catOk_t, leC_t] using q2)))⟩
  rw [br_iff]; refine ⟨fun q3 => tt, fun q3 => main (.inr (.inr (by simpa only [br_iff, need_iff, andB_t, andB_f, orB_t, orB_f, notB_t, notB_f, leI_t, leI_f, ltI_t, ltI_f, eqI_t, eqI_f, leN_t, leN_f, eqN_t, eqN_f, eqS_t, eqS_f, eqB_t, eqB_f, catOk_t, leC_t] using q3)))⟩
def winSh : List Sh := [windowsSh]
def winStrSh : List Sh := [windowsSh, .str]
def winOpSh : List Sh := [windowsSh, opSh]
def winTwoSh : List Sh := [windowsSh, .int .i64, .int .i64]
def winNameSh : List Sh := [windowsSh, .int .i64, .str]
theorem win_fits {v : V} (h : FitsA windowsSh v) : ∃ w : Windows, v = .agg w.v ∧ w.fit := by
  obtain ⟨vs, rfl, h⟩ := h
  obtain ⟨w, rfl, hf⟩ := Windows.fits h
  exact ⟨w, rfl, hf⟩
theorem wop_fits {v : V} (h : FitsA opSh v) : ∃ o : Op, v = .agg o.v ∧ o.fit := by
  obtain ⟨vs, rfl, h⟩ := h
  obtain ⟨o, rfl, hf⟩ := Op.fits h
  exact ⟨o, rfl, hf⟩
theorem str_fits {v : V} (h : FitsA .str v) : ∃ s : List UInt8, v = .str s ∧ s.length ≤ 140737488351232 := by
  obtain ⟨s, h, hl⟩ := h
  exact ⟨s, by simpa using h, hl⟩
theorem int_fits {v : V} (h : FitsA (.int .i64) v) : ∃ a : Int, v = .int .i64 a ∧ -9223372036854775808 ≤ a ∧ a ≤ 9223372036854775807 := by
  obtain ⟨a, h, h1, h2⟩ := h
  have e1 : IntKind.i64.min = -9223372036854775808 := by decide
  have e2 : IntKind.i64.max = 9223372036854775807 := by decide
  exact ⟨a, by simpa using h, by omega, by omega⟩
theorem op_bounds {o : Op} (h : o.fit) : o.id ≤ 9223372036854775807 ∧ -9223372036854775808 ≤ o.id ∧ o.mode ≤ 9223372036854775807 ∧ -9223372036854775808 ≤ o.mode := by
  obtain ⟨_, h1, h2, _⟩ := h
  have e1 : IntKind.i64.min = -9223372036854775808 := by decide
  have e2 : IntKind.i64.max = 9223372036854775807 := by decide
  omega
theorem right_fits {us : List V} (h : FitsAll winSh us) : Says 3 us := by
  obtain ⟨v0, r0, rfl, h0, rfl⟩ := h
  obtain ⟨w, rfl, hf⟩ := win_fits h0
  exact lr_says hf.2.2.1
theorem typed_fits {us : List V} (h : FitsAll winStrSh us) : Says 4 us := by
  obtain ⟨v0, r0, rfl, h0, v1, r1, rfl, h1, rfl⟩ := h
  obtain ⟨w, rfl, hf⟩ := win_fits h0
  obtain ⟨s, rfl, hs⟩ := str_fits h1
  exact lt_says
theorem apart_fits {us : List V} (h : FitsAll winOpSh us) : Says 5 us := by
  obtain ⟨v0, r0, rfl, h0, v1, r1, rfl, h1, rfl⟩ := h
  obtain ⟨w, rfl, hf⟩ := win_fits h0
  obtain ⟨o, rfl, ho⟩ := wop_fits h1
  exact la_says (op_bounds ho)
theorem blocks_fits {us : List V} (h : FitsAll winTwoSh us) : Says 6 us := by
  obtain ⟨v0, r0, rfl, h0, v1, r1, rfl, h1, v2, r2, rfl, h2, rfl⟩ := h
  obtain ⟨w, rfl, hf⟩ := win_fits h0
  obtain ⟨a, rfl, ha⟩ := int_fits h1
  obtain ⟨b, rfl, hb⟩ := int_fits h2
  exact lb_says ha.2
end Go.Proofs.YtdbbpibfejchfaaDoor
