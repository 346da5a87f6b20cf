/- Windows: conditions. -/
import Derived.Test.YtdbbpibfejchfaaGreatDoorWinEdit
import Derived.Test.YtdbbpibfejchfaaGreatDoorWinBase
namespace Go.Proofs.YtdbbpibfejchfaaGreatDoor
open Go.RowKit
set_option maxRecDepth 100000
set_option linter.unusedVariables false
set_option linter.unusedSimpArgs false
def smallL (l : List Window) : Prop := l.length ≤ 1000 ∧ ∀ x ∈ l, x.line.ready.length ≤ 100000 ∧ x.line.text.length ≤ 100000

def showT (t s : List UInt8) : List UInt8 := (t ++ s).drop ((t ++ s).length - 65536)

def wcloneCon : Con := fun vs bs K => match vs, bs with
  | [.agg [.int .i64 n, .int .i64 f, .lst xs]], [] => ∃ l, xs = windowV l ∧ smallL l ∧ K (.agg [.int .i64 n, .int .i64 f, .ref 0 0 l.length l.length]) [⟨true, false, true, windowV l, 0⟩]
  | _, _ => False

def idxCon : Con := fun vs bs K => match vs, bs with
  | [.agg [.int .i64 n, .int .i64 f, .lst xs], .int .i64 id], [] => ∃ l, xs = windowV l ∧ l.length ≤ 100000 ∧ K (.int .i64 (idxW l id)) []
  | _, _ => False

def ixwCon : Con := fun vs bs K => match vs, bs with
  | [.lst xs, .func 65 [] [.ptr 0 0 0]], [⟨true, true, true, [[.int .i64 s]], 0⟩] => ∃ l, xs = windowV l ∧ l.length ≤ 100000 ∧ K (.int .i64 (idxW l s)) [⟨true, true, true, [[.int .i64 s]], 0⟩]
  | _, _ => False

def soundCon : Con := fun vs bs K => match vs, bs with
  | [.agg [.int .i64 id, .str lb, .bool r, .str t, .lst ys, .str tx, .int .i64 op, .bool g]], [] => ∃ ls, ys = strV ls ∧ ls.length ≤ 100000 ∧ t.length ≤ 100000 ∧ K (.bool (soundW ⟨id, lb, ⟨r, t, ls⟩, tx, op, g⟩)) []
  | _, _ => False

def rightCon : Con := fun vs bs K => match vs, bs with
  | [.agg [.int .i64 n, .int .i64 f, .lst xs]], [] => ∃ l, xs = windowV l ∧ smallL l ∧ K (.bool (rightW ⟨n, f, l⟩)) []
  | _, _ => False

def showCon : Con := fun vs bs K => match vs, bs with
  | [.agg [.int .i64 id, .str lb, .bool r, .str t, .lst ys, .str tx, .int .i64 op, .bool g], .str s], [] => tx.length + s.length ≤ 4611686018427387904 ∧ K (.agg [.int .i64 id, .str lb, .bool r, .str t, .lst ys, .str (showT tx s), .int .i64 op, .bool g]) []
  | _, _ => False

def tenCon : Con := fun vs bs K => match vs, bs with
  | [.int .i64 a, .int .i64 10], [] => -9223372036854775808 ≤ a ∧ a ≤ 9223372036854775807 ∧ K (.str (textN 10 a)) []
  | _, _ => False

def namesCon : Con := fun vs bs K => match vs, bs with
  | [.int .i64 a], [] => K (.tup [.str (nameK a), .int .i64 (modeK a)]) []
  | _, _ => False

def findCon : Con := fun vs bs K => match vs, bs with
  | [.agg [.int .i64 n, .int .i64 f, .lst xs], .int .i64 id], [] => ∃ l, xs = windowV l ∧ l.length ≤ 1000 ∧ id ≤ 9223372036854775807 ∧
      (∀ p : Place, fileF l id = some p → K (.tup [.agg [.int .i64 p.id, .str p.name, .int .i64 p.mode, .int .i64 p.window, .int .i64 p.file], .bool true]) []) ∧ (fileF l id = none → K (.tup [.agg [.int .i64 0, .str [], .int .i64 0, .int .i64 0, .int .i64 0], .bool false]) [])
  | _, _ => False

structure ifwC where
  xs : List (List V)
  s : Int
  cnt : Int
structure ifwX where
  i : Int
def ifwSt (c : ifwC) (x : ifwX) : St := ⟨[(0, .lst c.xs), (1, .func 65 [] [.ptr 0 0 0]), (7, .int .i64 c.cnt), (8, .int .i64 x.i)], [(0, ⟨true, true, true, [[.int .i64 c.s]], 0⟩)]⟩
set_option maxHeartbeats 4000000 in
def ifwUn (s : St) : Option (ifwC × ifwX) :=
  match s with
  | ⟨[(q0, .lst xs), (q1, .func q2 [] [.ptr q3 q4 q5]), (q6, .int .i64 cnt), (q7, .int .i64 i)], [(q8, ⟨true, true, true, [[.int .i64 s]], q9⟩)]⟩ => bif Nat.beq q0 0 && Nat.beq q1 1 && Nat.beq q2 65 && Nat.beq q3 0 && Nat.beq q4 0 && Nat.beq q5 0 && Nat.beq q6 7 && Nat.beq q7 8 && Nat.beq q8 0 && Nat.beq q9 0 then some (⟨xs, s, cnt⟩, ⟨i⟩) else none
  | _ => none
set_option maxHeartbeats 4000000 in
def ifwL (inv : ifwC → ifwX → ifwX → Nat → Prop) : LoopS where
  C := ifwC
  X := ifwX
  st := ifwSt
  un := ifwUn
  ok := by
    intro s c x h
    unfold ifwUn at h
    split at h
    · simp only [Bool.cond_eq_ite] at h
      split at h
      · rename_i hg
        simp only [Bool.and_eq_true, Nat.beq_eq] at hg
        obtain ⟨⟨⟨⟨⟨⟨⟨⟨⟨rfl, rfl⟩, rfl⟩, rfl⟩, rfl⟩, rfl⟩, rfl⟩, rfl⟩, rfl⟩, rfl⟩ := hg
        cases h
        rfl
      · cases h
    · cases h
  inv := inv

structure clC where
  n : Int
  f : Int
  z0 : Int
  z1 : Int
  m : Nat
  k : Nat
  cnt : Int
structure clX where
  ys : List (List V)
  i : Int
def clSt (c : clC) (x : clX) : St := ⟨[(1, .ptr 0 0 0), (2, .ptr 1 0 0), (10, .int .i64 c.cnt), (11, .int .i64 x.i)], [(0, ⟨true, true, true, [[.int .i64 c.n, .int .i64 c.f, .ref 2 0 c.m c.k]], 0⟩), (1, ⟨true, true, true, [[.int .i64 c.z0, .int .i64 c.z1, .nils]], 0⟩), (2, ⟨true, false, true, x.ys, 0⟩)]⟩
set_option maxHeartbeats 4000000 in
def clUn (s : St) : Option (clC × clX) :=
  match s with
  | ⟨[(q0, .ptr q1 q2 q3), (q4, .ptr q5 q6 q7), (q8, .int .i64 cnt), (q9, .int .i64 i)], [(q10, ⟨true, true, true, [[.int .i64 n, .int .i64 f, .ref q11 q12 m k]], q13⟩), (q14, ⟨true, true, true, [[.int .i64 z0, .int .i64 z1, .nils]], q15⟩), (q16, ⟨true, false, true, ys, q17⟩)]⟩ => bif Nat.beq q0 1 && Nat.beq q1 0 && Nat.beq q2 0 && Nat.beq q3 0 && Nat.beq q4 2 && Nat.beq q5 1 && Nat.beq q6 0 && Nat.beq q7 0 && Nat.beq q8 10 && Nat.beq q9 11 && Nat.beq q10 0 && Nat.beq q11 2 && Nat.beq q12 0 && Nat.beq q13 0 && Nat.beq q14 1 && Nat.beq q15 0 && Nat.beq q16 2 && Nat.beq q17 0 then some (⟨n, f, z0, z1, m, k, cnt⟩, ⟨ys, i⟩) else none
  | _ => none
set_option maxHeartbeats 4000000 in
def clL (inv : clC → clX → clX → Nat → Prop) : LoopS where
  C := clC
  X := clX
  st := clSt
  un := clUn
  ok := by
    intro s c x h
    unfold clUn at h
    split at h
    · simp only [Bool.cond_eq_ite] at h
      split at h
      · rename_i hg
        simp only [Bool.and_eq_true, Nat.beq_eq] at hg
        obtain ⟨⟨⟨⟨⟨⟨⟨⟨⟨⟨⟨⟨⟨⟨⟨⟨⟨rfl, rfl⟩, rfl⟩, rfl⟩, rfl⟩, rfl⟩, rfl⟩, rfl⟩, rfl⟩, rfl⟩, rfl⟩, rfl⟩, rfl⟩, rfl⟩, rfl⟩, rfl⟩, rfl⟩, rfl⟩ := hg
        cases h
        rfl
      · cases h
    · cases h
  inv := inv

structure wrC where
  n : Int
  f : Int
  xs : List (List V)
  zs : List (List V)
  cnt : Int
structure wrX where
  i : Int
def wrSt (c : wrC) (x : wrX) : St := ⟨[(1, .ptr 0 0 0), (21, .lst c.zs), (22, .int .i64 c.cnt), (23, .int .i64 x.i)], [(0, ⟨true, true, true, [[.int .i64 c.n, .int .i64 c.f, .lst c.xs]], 0⟩)]⟩
set_option maxHeartbeats 4000000 in
def wrUn (s : St) : Option (wrC × wrX) :=
  match s with
  | ⟨[(q0, .ptr q1 q2 q3), (q4, .lst zs), (q5, .int .i64 cnt), (q6, .int .i64 i)], [(q7, ⟨true, true, true, [[.int .i64 n, .int .i64 f, .lst xs]], q8⟩)]⟩ => bif Nat.beq q0 1 && Nat.beq q1 0 && Nat.beq q2 0 && Nat.beq q3 0 && Nat.beq q4 21 && Nat.beq q5 22 && Nat.beq q6 23 && Nat.beq q7 0 && Nat.beq q8 0 then some (⟨n, f, xs, zs, cnt⟩, ⟨i⟩) else none
  | _ => none
set_option maxHeartbeats 4000000 in
def wrL (inv : wrC → wrX → wrX → Nat → Prop) : LoopS where
  C := wrC
  X := wrX
  st := wrSt
  un := wrUn
  ok := by
    intro s c x h
    unfold wrUn at h
    split at h
    · simp only [Bool.cond_eq_ite] at h
      split at h
      · rename_i hg
        simp only [Bool.and_eq_true, Nat.beq_eq] at hg
        obtain ⟨⟨⟨⟨⟨⟨⟨⟨rfl, rfl⟩, rfl⟩, rfl⟩, rfl⟩, rfl⟩, rfl⟩, rfl⟩, rfl⟩ := hg
        cases h
        rfl
      · cases h
    · cases h
  inv := inv

theorem ifw_vc (xs : List (List V)) (s : Int) (I : ifwC → ifwX → ifwX → Nat → Prop) (K : V → List Bk → Prop) : vcF Tryz.prog cfgN (ctOf [(65, inlC Tryz.prog cfgN (ctOf []) 65)]) (lpOf [(2, ifwL I)]) 64 [.lst xs, .func 65 [] [.ptr 0 0 0]] [⟨true, true, true, [[.int .i64 s]], 0⟩] K = (
  (∃ m4 : Nat, (((m4 : Nat) < 18446744073709551616)) ∧ (
  I (ifwC.mk xs s (lenL xs)) (ifwX.mk 0) (ifwX.mk 0) m4)) ∧ (
  ∀ x4 : (ifwL I).X, ∀ m5 : Nat, (I (ifwC.mk xs s (lenL xs)) (ifwX.mk 0) x4 m5) → (
  br (ltI x4.1 (lenL xs)) (
    need (andB (leI 0 x4.1) (ltI x4.1 (lenL xs))) (
    need (okRow xs x4.1.toNat 8) (
    ∃ n6 : Int, ∃ s7 : List UInt8, ∃ b8 : Bool, ∃ s9 : List UInt8, ∃ xs10 : List (List V), ∃ s11 : List UInt8, ∃ n12 : Int, ∃ b13 : Bool, ((sub (rowAt xs x4.1) 0 8 : Option (List V)) = some [V.int IntKind.i64 n6, V.str s7, V.bool b8, V.str s9, V.lst xs10, V.str s11, V.int IntKind.i64 n12, V.bool b13]) ∧ (
    br (eqI n6 s) (
      K (V.int IntKind.i64 x4.1) [Bk.mk true true true [[V.int IntKind.i64 s]] 0]) (
      ((ifwC.mk xs s (lenL xs) : (ifwL I).C) = ifwC.mk xs s (lenL xs)) ∧ (
      ∃ m'14 : Nat, (((m'14 : Nat) < m5)) ∧ (
      I (ifwC.mk xs s (lenL xs)) (ifwX.mk 0) (ifwX.mk (addI IntKind.i64 x4.1 1)) m'14))))))) (
    K (V.int IntKind.i64 (-1)) [Bk.mk true true true [[V.int IntKind.i64 s]] 0])))) := by kernel_rfl

theorem idx_vc (n f : Int) (xs : List (List V)) (id : Int) (K : V → List Bk → Prop) : vcF Tryz.prog cfgN (ctOf [(64, ixwCon)]) (lpOf []) 30 [.agg [.int .i64 n, .int .i64 f, .lst xs], .int .i64 id] [] K = (
  ∃ l5 : List Window, ((xs : List (List V)) = windowV l5) ∧ (
  (((l5.length : Nat) ≤ 100000)) ∧ (
  K (V.int IntKind.i64 (idxW l5 id)) []))) := by kernel_rfl

theorem cl_vc (n f : Int) (xs : List (List V)) (I : clC → clX → clX → Nat → Prop) (K : V → List Bk → Prop) : vcF Tryz.prog cfgN (ctOf []) (lpOf [(3, clL I)]) 32 [.agg [.int .i64 n, .int .i64 f, .lst xs]] [] K = (
  need (headOkP 8 xs) (
  need (leN (xs.length * 104) 140737488355328) (
  (∃ m5 : Nat, (((m5 : Nat) < 18446744073709551616)) ∧ (
  I (clC.mk n f 0 0 xs.length xs.length (Int.ofNat xs.length)) (clX.mk xs 0) (clX.mk xs 0) m5)) ∧ (
  ∀ x5 : (clL I).X, ∀ m6 : Nat, (I (clC.mk n f 0 0 xs.length xs.length (Int.ofNat xs.length)) (clX.mk xs 0) x5 m6) → (
  br (ltI x5.2 (Int.ofNat xs.length)) (
    need (andB (leI 0 x5.2) (ltI x5.2 (Int.ofNat xs.length))) (
    need (okRow x5.1 (0 + x5.2.toNat) 8) (
    ∃ xs7 : List (List V), ((partAt x5.1 (0 + x5.2.toNat) 4 1 : Option (List V)) = some [V.lst xs7]) ∧ (
    need (headOkP 1 xs7) (
    need (leN (xs7.length * 16) 140737488355328) (
    need (andB (leI 0 x5.2) (ltI x5.2 (Int.ofNat xs.length))) (
    need (okRow x5.1 (0 + x5.2.toNat) 8) (
    ∃ xs8 : List (List V), ((putAt x5.1 (0 + x5.2.toNat) 4 [V.lst (List.take xs7.length (List.drop 0 xs7))] : Option (List (List V))) = some xs8) ∧ (
    ((clC.mk n f (Int.ofNat 0) (Int.ofNat 0) xs.length xs.length (Int.ofNat xs.length) : (clL I).C) = clC.mk n f 0 0 xs.length xs.length (Int.ofNat xs.length)) ∧ (
    ∃ m'9 : Nat, (((m'9 : Nat) < m6)) ∧ (
    I (clC.mk n f 0 0 xs.length xs.length (Int.ofNat xs.length)) (clX.mk xs 0) (clX.mk xs8 (addI IntKind.i64 x5.2 1)) m'9))))))))))) (
    K (V.agg [V.int IntKind.i64 n, V.int IntKind.i64 f, V.ref 0 0 xs.length xs.length]) [Bk.mk true false true x5.1 0])))))) := by kernel_rfl

theorem snd_vc (id : Int) (lb : List UInt8) (r : Bool) (t : List UInt8) (ys : List (List V)) (tx : List UInt8) (op : Int) (g : Bool) (K : V → List Bk → Prop) : vcF Tryz.prog cfgN (ctOf [(63, rgCon)]) (lpOf []) 29 [.agg [.int .i64 id, .str lb, .bool r, .str t, .lst ys, .str tx, .int .i64 op, .bool g]] [] K = (
  br (ltI 64 (lenS lb)) (
    K (V.bool false) []) (
    br (ltI 65536 (lenS tx)) (
      K (V.bool false) []) (
      ∃ l9 : List (List UInt8), ((ys : List (List V)) = strV l9) ∧ (
      (((l9.length : Nat) ≤ 100000)) ∧ (
      (((t.length : Nat) ≤ 100000)) ∧ (
      br (notB (rightL (Line.mk r t l9))) (
        K (V.bool false) []) (
        br (ltI op 0) (
          K (V.bool false) []) (
          br (ltI 9007199254740991 op) (
            K (V.bool false) []) (
            br (notB g) (
              K (V.bool true) []) (
              K (V.bool (ltI 0 op)) [])))))))))) := by kernel_rfl

def wr_vc_1 (n f : Int) (xs : List (List V)) (I : wrC → wrX → wrX → Nat → Prop) (K : V → List Bk → Prop) (xs11 : List (List V)) (s10 : List UInt8) (n7 : Int) (s8 : List UInt8) (b9 : Bool) (s12 : List UInt8) (n13 : Int) (b14 : Bool) (m6 : Nat) (x5 : (wrL I).X) : Prop :=
  (
                  ∃ ls16 : List (List UInt8), ((xs11 : List (List V)) = strV ls16) ∧ (
                  (((ls16.length : Nat) ≤ 100000)) ∧ (
                  (((s10.length : Nat) ≤ 100000)) ∧ (
                  br (notB (soundW (Window.mk n7 s8 (Line.mk b9 s10 ls16) s12 n13 b14))) (
                    K (V.bool false) []) (
                    ((wrC.mk n f xs xs (lenL xs) : (wrL I).C) = wrC.mk n f xs xs (lenL xs)) ∧ (
                    ∃ m'17 : Nat, (((m'17 : Nat) < m6)) ∧ (
                    I (wrC.mk n f xs xs (lenL xs)) (wrX.mk 0) (wrX.mk (addI IntKind.i64 x5.1 1)) m'17)))))))
theorem wr_vc (n f : Int) (xs : List (List V)) (I : wrC → wrX → wrX → Nat → Prop) (K : V → List Bk → Prop) : vcF Tryz.prog cfgN (ctOf [(29, soundCon), (30, idxCon)]) (lpOf [(4, wrL I)]) 11 [.agg [.int .i64 n, .int .i64 f, .lst xs]] [] K = (
  br (ltI n 1) (
    K (V.bool false) []) (
    br (ltI 1048576 n) (
      K (V.bool false) []) (
      br (ltI 16 (lenL xs)) (
        K (V.bool false) []) (
        (∃ m5 : Nat, (((m5 : Nat) < 18446744073709551616)) ∧ (
        I (wrC.mk n f xs xs (lenL xs)) (wrX.mk 0) (wrX.mk 0) m5)) ∧ (
        ∀ x5 : (wrL I).X, ∀ m6 : Nat, (I (wrC.mk n f xs xs (lenL xs)) (wrX.mk 0) x5 m6) → (
        br (ltI x5.1 (lenL xs)) (
          need (andB (leI 0 x5.1) (ltI x5.1 (lenL xs))) (
          need (okRow xs x5.1.toNat 8) (
          ∃ n7 : Int, ∃ s8 : List UInt8, ∃ b9 : Bool, ∃ s10 : List UInt8, ∃ xs11 : List (List V), ∃ s12 : List UInt8, ∃ n13 : Int, ∃ b14 : Bool, ((sub (rowAt xs x5.1) 0 8 : Option (List V)) = some [V.int IntKind.i64 n7, V.str s8, V.bool b9, V.str s10, V.lst xs11, V.str s12, V.int IntKind.i64 n13, V.bool b14]) ∧ (
          br (ltI n7 1) (
            K (V.bool false) []) (
            br (leI n n7) (
              K (V.bool false) []) (
              br (ltI 0 x5.1) (
                need (andB (leI 0 (subI IntKind.i64 x5.1 1)) (ltI (subI IntKind.i64 x5.1 1) (lenL xs))) (
                need (okRow xs (subI IntKind.i64 x5.1 1).toNat 8) (
                ∃ n15 : Int, ((sub (rowAt xs (subI IntKind.i64 x5.1 1)) 0 1 : Option (List V)) = some [V.int IntKind.i64 n15]) ∧ (
                br (leI n7 n15) (
                  K (V.bool false) []) (wr_vc_1 n f xs I K xs11 s10 n7 s8 b9 s12 n13 b14 m6 x5))))) (wr_vc_1 n f xs I K xs11 s10 n7 s8 b9 s12 n13 b14 m6 x5))))))) (
          br (eqI f 0) (
            K (V.bool true) []) (
            ∃ l7 : List Window, ((xs : List (List V)) = windowV l7) ∧ (
            (((l7.length : Nat) ≤ 100000)) ∧ (
            br (leI 0 (idxW l7 f)) (
              need (andB (leI 0 (idxW l7 f)) (ltI (idxW l7 f) (lenL xs))) (
              need (okRow xs (idxW l7 f).toNat 8) (
              ∃ b8 : Bool, ((sub (rowAt xs (idxW l7 f)) 7 1 : Option (List V)) = some [V.bool b8]) ∧ (
              K (V.bool (notB b8)) [])))) (
              K (V.bool false) []))))))))))) := by kernel_rfl

theorem shw_vc (id : Int) (lb : List UInt8) (r : Bool) (t : List UInt8) (ys : List (List V)) (tx : List UInt8) (op : Int) (g : Bool) (s : List UInt8) (K : V → List Bk → Prop) : vcF Tryz.prog cfgN (ctOf []) (lpOf []) 39 [.agg [.int .i64 id, .str lb, .bool r, .str t, .lst ys, .str tx, .int .i64 op, .bool g], .str s] [] K = (
  need (catOk tx s) (
  need (andB (leI 0 (maxI (subI IntKind.i64 (lenS (catS tx s)) 65536) 0)) (leI (maxI (subI IntKind.i64 (lenS (catS tx s)) 65536) 0) (lenS (catS tx s)))) (
  K (V.agg [V.int IntKind.i64 id, V.str lb, V.bool r, V.str t, V.lst ys, V.str (cutS (catS tx s) (maxI (subI IntKind.i64 (lenS (catS tx s)) 65536) 0) (lenS (catS tx s))), V.int IntKind.i64 op, V.bool g]) []))) := by kernel_rfl

theorem nms_vc (a : Int) (K : V → List Bk → Prop) : vcF Tryz.prog cfgN (ctOf []) (lpOf []) 69 [.int .i64 a] [] K = (
  br (eqI a 1) (
    K (V.tup [V.str [99, 111, 110, 115], V.int IntKind.i64 438]) []) (
    br (eqI a 2) (
      K (V.tup [V.str [99, 111, 110, 115, 99, 116, 108], V.int IntKind.i64 146]) []) (
      br (eqI a 3) (
        K (V.tup [V.str [108, 97, 98, 101, 108], V.int IntKind.i64 438]) []) (
        br (eqI a 4) (
          K (V.tup [V.str [116, 101, 120, 116], V.int IntKind.i64 292]) []) (
          K (V.tup [V.str [99, 116, 108], V.int IntKind.i64 146]) []))))) := by kernel_rfl

def fnd_vc_1 (n f : Int) (xs : List (List V)) (id : Int) (K : V → List Bk → Prop) (l5 : List Window) : Prop :=
  (
                br (eqI (id.tmod 16) 0) (
                  (((-9223372036854775808 : Int) ≤ quoI IntKind.i64 id 16)) ∧ (
                  (((quoI IntKind.i64 id 16 : Int) ≤ 9223372036854775807)) ∧ (
                  K (V.tup [V.agg [V.int IntKind.i64 id, V.str (textN 10 (quoI IntKind.i64 id 16)), V.int IntKind.i64 2147484013, V.int IntKind.i64 (idxW l5 (quoI IntKind.i64 id 16)), V.int IntKind.i64 (id.tmod 16)], V.bool true]) []))) (
                  K (V.tup [V.agg [V.int IntKind.i64 id, V.str (nameK (id.tmod 16)), V.int IntKind.i64 (modeK (id.tmod 16)), V.int IntKind.i64 (idxW l5 (quoI IntKind.i64 id 16)), V.int IntKind.i64 (id.tmod 16)], V.bool true]) []))
theorem fnd_vc (n f : Int) (xs : List (List V)) (id : Int) (K : V → List Bk → Prop) : vcF Tryz.prog cfgN (ctOf [(30, idxCon), (68, tenCon), (69, namesCon)]) (lpOf []) 33 [.agg [.int .i64 n, .int .i64 f, .lst xs], .int .i64 id] [] K = (
  br (eqI id 1) (
    K (V.tup [V.agg [V.int IntKind.i64 1, V.str [47], V.int IntKind.i64 2147484013, V.int IntKind.i64 (-1), V.int IntKind.i64 0], V.bool true]) []) (
    br (eqI id 2) (
      K (V.tup [V.agg [V.int IntKind.i64 2, V.str [102, 111, 99, 117, 115], V.int IntKind.i64 438, V.int IntKind.i64 (-1), V.int IntKind.i64 0], V.bool true]) []) (
      br (ltI id 16) (
        K (V.tup [V.agg [V.int IntKind.i64 0, V.str [], V.int IntKind.i64 0, V.int IntKind.i64 0, V.int IntKind.i64 0], V.bool false]) []) (
        ∃ l5 : List Window, ((xs : List (List V)) = windowV l5) ∧ (
        (((l5.length : Nat) ≤ 100000)) ∧ (
        br (ltI (idxW l5 (quoI IntKind.i64 id 16)) 0) (
          K (V.tup [V.agg [V.int IntKind.i64 0, V.str [], V.int IntKind.i64 0, V.int IntKind.i64 0, V.int IntKind.i64 0], V.bool false]) []) (
          br (leI 6 (id.tmod 16)) (
            K (V.tup [V.agg [V.int IntKind.i64 0, V.str [], V.int IntKind.i64 0, V.int IntKind.i64 0, V.int IntKind.i64 0], V.bool false]) []) (
            br (eqI (id.tmod 16) 0) (
              need (andB (leI 0 (idxW l5 (quoI IntKind.i64 id 16))) (ltI (idxW l5 (quoI IntKind.i64 id 16)) (lenL xs))) (
              need (okRow xs (idxW l5 (quoI IntKind.i64 id 16)).toNat 8) (
              ∃ b6 : Bool, ((sub (rowAt xs (idxW l5 (quoI IntKind.i64 id 16))) 7 1 : Option (List V)) = some [V.bool b6]) ∧ (
              br (b6) (
                K (V.tup [V.agg [V.int IntKind.i64 0, V.str [], V.int IntKind.i64 0, V.int IntKind.i64 0, V.int IntKind.i64 0], V.bool false]) []) (fnd_vc_1 n f xs id K l5))))) (fnd_vc_1 n f xs id K l5))))))))) := by kernel_rfl

end Go.Proofs.YtdbbpibfejchfaaGreatDoor
namespace Go.Proofs.YtdbbpibfejchfaaGreatDoor
open Go.RowKit
set_option maxRecDepth 100000
set_option linter.unusedVariables false
set_option linter.unusedSimpArgs false
theorem at_next {l : List Window} {s : Int} {k : Nat} {f : Window} (hp : ∀ (j : Nat) g, j < k → l[j]? = some g → g.id ≠ s) (hf : l[k]? = some f) (h : f.id ≠ s) : ∀ (j : Nat) g, j < k + 1 → l[j]? = some g → g.id ≠ s := by
  intro j g hj hg
  rcases Nat.lt_or_ge j k with h1 | h1
  · exact hp j g h1 hg
  · obtain rfl : j = k := by omega
    obtain rfl := Option.some.inj (hf.symm.trans hg)
    exact h
theorem at_end {l : List Window} {s : Int} (hp : ∀ (j : Nat) g, j < l.length → l[j]? = some g → g.id ≠ s) : idxW l s = -1 := idxW_none fun a ha => by
  obtain ⟨j, hj⟩ := List.mem_iff_getElem?.1 ha
  exact hp j a (List.getElem?_eq_some_iff.1 hj).1 hj
def atI (l : List Window) (s : Int) (i : Int) (m : Nat) : Prop := ∃ k : Nat, i = (k : Int) ∧ k + m = l.length ∧ ∀ (j : Nat) g, j < k → l[j]? = some g → g.id ≠ s
theorem ixw_con {n : Nat} (hn : 2 ≤ n) : ConOk (evalF Tryz.prog cfgN n) 64 ixwCon := by
  intro vs bs K h
  unfold ixwCon at h
  split at h
  · rename_i xs s
    obtain ⟨l, rfl, hb, hK⟩ := h
    refine run_of (lp := lpOf [(2, ifwL fun _ _ x m => atI l s x.i m)]) (by omega) (ct := ctOf [(65, inlC Tryz.prog cfgN (ctOf []) 65)]) (fun k hk => ctOf_ok (ctOf_cons (inl_ok (by omega) (fun _ _ => noCt_ok _)) (ctOf_nil _))) ?_
    rw [ifw_vc]
    simp only [windowV_lenL]
    refine ⟨⟨l.length, by omega, 0, rfl, by omega, fun j g hj => by omega⟩, ?_⟩
    rintro ⟨i⟩ m ⟨k, rfl, hk, hp⟩
    dsimp only
    rw [br_iff]
    refine ⟨fun hlt => ?_, fun hge => ?_⟩
    · have hlt : k < l.length := by simp only [br_iff, need_iff, andB_t, andB_f, orB_t, orB_f, notB_t, notB_f, leI_t, leI_f, ltI_t, ltI_f, eqI_t, eqI_f, leN_t, leN_f, eqN_t, eqN_f, eqS_t, eqS_f, eqB_t, eqB_f, catOk_t, leC_t] at hlt; omega
      have gf : l[k]? = some l[k] := List.getElem?_eq_getElem hlt
      generalize l[k] = f at gf
      have rf := windowV_row gf
      have kf : okRow (windowV l) (Int.toNat (k : Int)) 8 = true := by simpa using windowV_ok (l := l) (i := k) hlt
      have nf : andB (leI 0 (k : Int)) (ltI (k : Int) (l.length : Int)) = true := by simp only [br_iff, need_iff, andB_t, andB_f, orB_t, orB_f, notB_t, notB_f, leI_t, leI_f, ltI_t, ltI_f, eqI_t, eqI_f, leN_t, leN_f, eqN_t, eqN_f, eqS_t, eqS_f, eqB_t, eqB_f, catOk_t, leC_t]; omega
      rw [need_iff, need_iff]
      refine ⟨nf, kf, ?_⟩
      try rw [rf]
      repeat apply Exists.intro
      refine ⟨rfl, ?_⟩
      rw [br_iff]
      refine ⟨fun g => ?_, fun g => ⟨by trivial, m - 1, by omega, k + 1, by rw [addI_i64 (by omega) (by omega)]; omega, by omega, at_next hp gf (by simp only [br_iff, need_iff, andB_t, andB_f, orB_t, orB_f, notB_t, notB_f, leI_t, leI_f, ltI_t, ltI_f, eqI_t, eqI_f, leN_t, leN_f, eqN_t, eqN_f, eqS_t, eqS_f, eqB_t, eqB_f, catOk_t, leC_t] at g; exact g)⟩⟩
      simp only [br_iff, need_iff, andB_t, andB_f, orB_t, orB_f, notB_t, notB_f, leI_t, leI_f, ltI_t, ltI_f, eqI_t, eqI_f, leN_t, leN_f, eqN_t, eqN_f, eqS_t, eqS_f, eqB_t, eqB_f, catOk_t, leC_t] at g
      rw [idxW_at gf g hp] at hK; exact hK
    · have : k = l.length := by simp only [br_iff, need_iff, andB_t, andB_f, orB_t, orB_f, notB_t, notB_f, leI_t, leI_f, ltI_t, ltI_f, eqI_t, eqI_f, leN_t, leN_f, eqN_t, eqN_f, eqS_t, eqS_f, eqB_t, eqB_f, catOk_t, leC_t] at hge; omega
      subst this
      rw [at_end hp] at hK; exact hK
  · exact h.elim
theorem idx_con {n : Nat} (hn : 3 ≤ n) : ConOk (evalF Tryz.prog cfgN n) 30 idxCon := by
  intro vs bs K h
  unfold idxCon at h
  split at h
  · obtain ⟨l, rfl, hb, hK⟩ := h
    refine run_of (lp := lpOf []) (by omega) (ct := ctOf [(64, ixwCon)]) (fun k hk => ctOf_ok (ctOf_cons (ixw_con (by omega)) (ctOf_nil _))) ?_
    rw [idx_vc]
    exact ⟨l, rfl, hb, hK⟩
  · exact h.elim
theorem wcl_con {n : Nat} (hn : 1 ≤ n) : ConOk (evalF Tryz.prog cfgN n) 32 wcloneCon := by
  intro vs bs K h
  unfold wcloneCon at h
  split at h
  · rename_i n' f' xs
    obtain ⟨l, rfl, hb, hK⟩ := h
    have hlen := hb.1
    refine run_of (lp := lpOf [(3, clL fun _ _ x m => ∃ k : Nat, x = ⟨windowV l, (k : Int)⟩ ∧ k + m = l.length)]) hn (fun k _ => noCt_ok _) ?_
    rw [cl_vc]
    simp only [windowV_len]
    rw [need_iff]; refine ⟨windowV_head _, ?_⟩
    rw [need_iff]; refine ⟨by simp only [br_iff, need_iff, andB_t, andB_f, orB_t, orB_f, notB_t, notB_f, leI_t, leI_f, ltI_t, ltI_f, eqI_t, eqI_f, leN_t, leN_f, eqN_t, eqN_f, eqS_t, eqS_f, eqB_t, eqB_f, catOk_t, leC_t]; omega, ⟨l.length, by omega, 0, rfl, by omega⟩, ?_⟩
    rintro _ m ⟨k, rfl, hk⟩
    dsimp only
    rw [br_iff]
    refine ⟨fun hlt => ?_, fun hge => hK⟩
    have hlt : k < l.length := by simp only [br_iff, need_iff, andB_t, andB_f, orB_t, orB_f, notB_t, notB_f, leI_t, leI_f, ltI_t, ltI_f, eqI_t, eqI_f, leN_t, leN_f, eqN_t, eqN_f, eqS_t, eqS_f, eqB_t, eqB_f, catOk_t, leC_t, Int.ofNat_eq_natCast] at hlt; omega
    have gf : l[k]? = some l[k] := List.getElem?_eq_getElem hlt
    generalize l[k] = f at gf
    have rf := windowV_row gf
    have kf : okRow (windowV l) (Int.toNat (k : Int)) 8 = true := by simpa using windowV_ok (l := l) (i := k) hlt
    have nf : andB (leI 0 (k : Int)) (ltI (k : Int) (l.length : Int)) = true := by simp only [br_iff, need_iff, andB_t, andB_f, orB_t, orB_f, notB_t, notB_f, leI_t, leI_f, ltI_t, ltI_f, eqI_t, eqI_f, leN_t, leN_f, eqN_t, eqN_f, eqS_t, eqS_f, eqB_t, eqB_f, catOk_t, leC_t]; omega
    have hm := hb.2 f (List.mem_of_getElem? gf)
    have hn2 : andB (leI 0 (k : Int)) (ltI (k : Int) (Int.ofNat l.length)) = true := by simp only [br_iff, need_iff, andB_t, andB_f, orB_t, orB_f, notB_t, notB_f, leI_t, leI_f, ltI_t, ltI_f, eqI_t, eqI_f, leN_t, leN_f, eqN_t, eqN_f, eqS_t, eqS_f, eqB_t, eqB_f, catOk_t, leC_t, Int.ofNat_eq_natCast]; omega
    simp only [Nat.zero_add, hn2, need_tt]
    rw [need_iff]; refine ⟨kf, strV f.line.ready, by rw [windowV_part (by simpa using gf)]; rfl, ?_⟩
    rw [need_iff]; refine ⟨strV_head _, ?_⟩
    rw [need_iff]; refine ⟨by simp only [br_iff, need_iff, andB_t, andB_f, orB_t, orB_f, notB_t, notB_f, leI_t, leI_f, ltI_t, ltI_f, eqI_t, eqI_f, leN_t, leN_f, eqN_t, eqN_f, eqS_t, eqS_f, eqB_t, eqB_f, catOk_t, leC_t, strV_len]; omega, ?_⟩
    rw [need_iff]; refine ⟨kf, windowV l, ?_, by trivial, m - 1, by omega, k + 1, by rw [addI_i64 (by omega) (by omega)]; rfl, by omega⟩
    simp only [List.drop_zero, strV_len, strV_all, Int.toNat_natCast]
    have e := windowV_put (g := f) gf (o := 4) (ys := [.lst (strV f.line.ready)]) rfl
    rw [e]
    obtain ⟨h1, rfl⟩ := List.getElem?_eq_some_iff.1 gf
    rw [List.set_getElem_self]
  · exact h.elim
theorem snd_con {n : Nat} (hn : 5 ≤ n) : ConOk (evalF Tryz.prog cfgN n) 29 soundCon := by
  intro vs bs K h
  unfold soundCon at h
  split at h
  · rename_i id lb r t ys tx op g
    obtain ⟨ls, rfl, h1, h2, hK⟩ := h
    refine run_of (lp := lpOf []) (by omega) (ct := ctOf [(63, rgCon)]) (fun k hk => ctOf_ok (ctOf_cons (rg_con (by omega)) (ctOf_nil _))) ?_
    rw [snd_vc]
    have no : soundW ⟨id, lb, ⟨r, t, ls⟩, tx, op, g⟩ = false → K (.bool false) [] := fun h => by rw [h] at hK; exact hK
    rw [br_iff]; refine ⟨fun q => no ?_, fun q1 => ?_⟩
    · simp only [br_iff, need_iff, andB_t, andB_f, orB_t, orB_f, notB_t, notB_f, leI_t, leI_f, ltI_t, ltI_f, eqI_t, eqI_f, leN_t, leN_f, eqN_t, eqN_f, eqS_t, eqS_f, eqB_t, eqB_f, catOk_t, leC_t, lenS] at q
      unfold soundW; rw [decide_eq_false (by simp only; omega)]; simp
    rw [br_iff]; refine ⟨fun q => no ?_, fun q2 => ⟨ls, rfl, h1, h2, ?_⟩⟩
    · simp only [br_iff, need_iff, andB_t, andB_f, orB_t, orB_f, notB_t, notB_f, leI_t, leI_f, ltI_t, ltI_f, eqI_t, eqI_f, leN_t, leN_f, eqN_t, eqN_f, eqS_t, eqS_f, eqB_t, eqB_f, catOk_t, leC_t, lenS] at q
      unfold soundW; rw [decide_eq_false (p := tx.length ≤ 65536) (by omega)]; simp
    rw [br_iff]; refine ⟨fun q => no ?_, fun q3 => ?_⟩
    · simp only [notB, Bool.not_eq_true'] at q
      simp only [soundW, q]; simp
    rw [br_iff]; refine ⟨fun q => no ?_, fun q4 => ?_⟩
    · simp only [br_iff, need_iff, andB_t, andB_f, orB_t, orB_f, notB_t, notB_f, leI_t, leI_f, ltI_t, ltI_f, eqI_t, eqI_f, leN_t, leN_f, eqN_t, eqN_f, eqS_t, eqS_f, eqB_t, eqB_f, catOk_t, leC_t] at q
      unfold soundW; rw [decide_eq_false (p := 0 ≤ op) (by omega)]; simp
    rw [br_iff]; refine ⟨fun q => no ?_, fun q5 => ?_⟩
    · simp only [br_iff, need_iff, andB_t, andB_f, orB_t, orB_f, notB_t, notB_f, leI_t, leI_f, ltI_t, ltI_f, eqI_t, eqI_f, leN_t, leN_f, eqN_t, eqN_f, eqS_t, eqS_f, eqB_t, eqB_f, catOk_t, leC_t] at q
      unfold soundW; rw [decide_eq_false (p := op ≤ 9007199254740991) (by omega)]; simp
    have e : soundW ⟨id, lb, ⟨r, t, ls⟩, tx, op, g⟩ = !(g && decide (op = 0)) := by
      simp only [br_iff, need_iff, andB_t, andB_f, orB_t, orB_f, notB_t, notB_f, leI_t, leI_f, ltI_t, ltI_f, eqI_t, eqI_f, leN_t, leN_f, eqN_t, eqN_f, eqS_t, eqS_f, eqB_t, eqB_f, catOk_t, leC_t, lenS] at q1 q2 q4 q5
      simp only [notB, Bool.not_eq_false'] at q3
      simp only [soundW, q3]
      rw [decide_eq_true (p := lb.length ≤ 64) (by omega), decide_eq_true (p := tx.length ≤ 65536) (by omega), decide_eq_true (p := 0 ≤ op) (by omega), decide_eq_true (p := op ≤ 9007199254740991) (by omega)]
      simp
    rw [e] at hK
    rw [br_iff]; refine ⟨fun q => ?_, fun q => ?_⟩
    · simp only [notB, Bool.not_eq_true'] at q
      rw [q] at hK; exact hK
    · simp only [notB, Bool.not_eq_false'] at q
      rw [q] at hK
      have e2 : ltI 0 op = !(true && decide (op = 0)) := by
        simp only [br_iff, need_iff, andB_t, andB_f, orB_t, orB_f, notB_t, notB_f, leI_t, leI_f, ltI_t, ltI_f, eqI_t, eqI_f, leN_t, leN_f, eqN_t, eqN_f, eqS_t, eqS_f, eqB_t, eqB_f, catOk_t, leC_t] at q4
        unfold ltI
        rw [Bool.true_and, ← decide_not]
        exact decide_eq_decide.2 (by omega)
      rw [e2]; exact hK
  · exact h.elim
def prevId (l : List Window) (k : Nat) : Int := if k = 0 then 0 else (wAt l ((k - 1 : Nat) : Int)).id
theorem prevId_succ {l : List Window} {k : Nat} {f : Window} (h : l[k]? = some f) : prevId l (k + 1) = f.id := by
  unfold prevId
  rw [if_neg (by omega), show k + 1 - 1 = k by omega, wAt_nat h]
def goodI (n : Int) (l : List Window) (k : Nat) : Prop := goodF n (prevId l k) (l.drop k) = goodF n 0 l ∧ 0 ≤ prevId l k
theorem good_step {n : Int} {l : List Window} {k : Nat} {f : Window} (h : goodI n l k) (hf : l[k]? = some f) (h1 : prevId l k < f.id) (h2 : f.id < n) (h3 : soundW f = true) : goodI n l (k + 1) := by
  unfold goodI at *
  rw [prevId_succ hf]
  refine ⟨?_, by omega⟩
  rw [← h.1]
  obtain ⟨hk, rfl⟩ := List.getElem?_eq_some_iff.1 hf
  rw [List.drop_eq_getElem_cons hk, goodF, decide_eq_true h1, decide_eq_true h2, h3]
  rfl
theorem good_no {n f0 : Int} {l : List Window} {k : Nat} {f : Window} (h : goodI n l k) (hf : l[k]? = some f) (hno : f.id ≤ prevId l k ∨ n ≤ f.id ∨ soundW f = false) : rightW ⟨n, f0, l⟩ = false := by
  have : goodF n 0 l = false := by
    rw [← h.1]
    obtain ⟨hk, rfl⟩ := List.getElem?_eq_some_iff.1 hf
    rw [List.drop_eq_getElem_cons hk, goodF]
    rcases hno with h1 | h1 | h1
    · rw [decide_eq_false (p := prevId l k < _) (by omega)]; simp
    · rw [decide_eq_false (p := (l[k]).id < n) (by omega)]; simp
    · rw [h1]; simp
  simp only [rightW, this]; simp
theorem right_end {n f0 : Int} {l : List Window} (h0 : 1 ≤ n) (h1 : n ≤ 1048576) (h2 : l.length ≤ 16) (h : goodI n l l.length) : rightW ⟨n, f0, l⟩ = (decide (f0 = 0) || seenW l f0) := by
  have : goodF n 0 l = true := by
    rw [← h.1, List.drop_length]; rfl
  simp only [rightW, this, decide_eq_true h0, decide_eq_true h1, decide_eq_true h2]; simp
theorem wr_con {n : Nat} (hn : 6 ≤ n) : ConOk (evalF Tryz.prog cfgN n) 11 rightCon := by
  intro vs bs K h
  unfold rightCon at h
  split at h
  · rename_i nx f0 xs
    obtain ⟨l, rfl, hb, hK⟩ := h
    have hlen := hb.1
    refine run_of (lp := lpOf [(4, wrL fun _ _ x m => ∃ k : Nat, x = ⟨(k : Int)⟩ ∧ k + m = l.length ∧ goodI nx l k)]) (by omega) (ct := ctOf [(29, soundCon), (30, idxCon)])
      (fun k hk => ctOf_ok (ctOf_cons (snd_con (by omega)) (ctOf_cons (idx_con (by omega)) (ctOf_nil _)))) ?_
    rw [wr_vc]
    have no : rightW ⟨nx, f0, l⟩ = false → K (.bool false) [] := fun h => by rw [h] at hK; exact hK
    simp only [windowV_lenL]
    rw [br_iff]; refine ⟨fun q => no ?_, fun q1 => ?_⟩
    · simp only [br_iff, need_iff, andB_t, andB_f, orB_t, orB_f, notB_t, notB_f, leI_t, leI_f, ltI_t, ltI_f, eqI_t, eqI_f, leN_t, leN_f, eqN_t, eqN_f, eqS_t, eqS_f, eqB_t, eqB_f, catOk_t, leC_t] at q
      unfold rightW; rw [decide_eq_false (p := 1 ≤ nx) (by omega)]; simp
    rw [br_iff]; refine ⟨fun q => no ?_, fun q2 => ?_⟩
    · simp only [br_iff, need_iff, andB_t, andB_f, orB_t, orB_f, notB_t, notB_f, leI_t, leI_f, ltI_t, ltI_f, eqI_t, eqI_f, leN_t, leN_f, eqN_t, eqN_f, eqS_t, eqS_f, eqB_t, eqB_f, catOk_t, leC_t] at q
      unfold rightW; rw [decide_eq_false (p := nx ≤ 1048576) (by omega)]; simp
    rw [br_iff]; refine ⟨fun q => no ?_, fun q3 => ⟨⟨l.length, by omega, 0, rfl, by omega, rfl, Int.le_refl 0⟩, ?_⟩⟩
    · simp only [br_iff, need_iff, andB_t, andB_f, orB_t, orB_f, notB_t, notB_f, leI_t, leI_f, ltI_t, ltI_f, eqI_t, eqI_f, leN_t, leN_f, eqN_t, eqN_f, eqS_t, eqS_f, eqB_t, eqB_f, catOk_t, leC_t] at q
      unfold rightW; rw [decide_eq_false (p := l.length ≤ 16) (by omega)]; simp
    simp only [br_iff, need_iff, andB_t, andB_f, orB_t, orB_f, notB_t, notB_f, leI_t, leI_f, ltI_t, ltI_f, eqI_t, eqI_f, leN_t, leN_f, eqN_t, eqN_f, eqS_t, eqS_f, eqB_t, eqB_f, catOk_t, leC_t] at q1 q2 q3
    rintro _ m ⟨k, rfl, hk, hp⟩
    dsimp only
    rw [br_iff]
    refine ⟨fun hlt => ?_, fun hge => ?_⟩
    · have hlt : k < l.length := by simp only [br_iff, need_iff, andB_t, andB_f, orB_t, orB_f, notB_t, notB_f, leI_t, leI_f, ltI_t, ltI_f, eqI_t, eqI_f, leN_t, leN_f, eqN_t, eqN_f, eqS_t, eqS_f, eqB_t, eqB_f, catOk_t, leC_t] at hlt; omega
      have gf : l[k]? = some l[k] := List.getElem?_eq_getElem hlt
      generalize l[k] = f at gf
      have rf := windowV_row gf
      have kf : okRow (windowV l) (Int.toNat (k : Int)) 8 = true := by simpa using windowV_ok (l := l) (i := k) hlt
      have nf : andB (leI 0 (k : Int)) (ltI (k : Int) (l.length : Int)) = true := by simp only [br_iff, need_iff, andB_t, andB_f, orB_t, orB_f, notB_t, notB_f, leI_t, leI_f, ltI_t, ltI_f, eqI_t, eqI_f, leN_t, leN_f, eqN_t, eqN_f, eqS_t, eqS_f, eqB_t, eqB_f, catOk_t, leC_t]; omega
      have hm := hb.2 f (List.mem_of_getElem? gf)
      rw [need_iff, need_iff]
      refine ⟨nf, kf, ?_⟩
      try rw [rf]
      repeat apply Exists.intro
      refine ⟨rfl, ?_⟩
      have hp0 := hp.2
      have rest : prevId l k < f.id → f.id < nx → wr_vc_1 nx f0 (windowV l) (fun _ _ x m => ∃ k : Nat, x = ⟨(k : Int)⟩ ∧ k + m = l.length ∧ goodI nx l k) K (strV f.line.ready) f.line.text f.id f.label f.line.raw f.text f.opens f.gone m ⟨(k : Int)⟩ := by
        intro g1 g2
        unfold wr_vc_1
        refine ⟨f.line.ready, rfl, hm.1, hm.2, ?_⟩
        have e : (⟨f.id, f.label, ⟨f.line.raw, f.line.text, f.line.ready⟩, f.text, f.opens, f.gone⟩ : Window) = f := rfl
        rw [e, br_iff]
        refine ⟨fun q => no (good_no hp gf (.inr (.inr (by simpa only [notB, Bool.not_eq_true'] using q)))), fun q => ⟨by trivial, m - 1, by omega, k + 1, by dsimp only; rw [addI_i64 (by omega) (by omega)]; rfl, by omega, ?_⟩⟩
        exact good_step hp gf g1 g2 (by simpa only [notB, Bool.not_eq_false'] using q)
      rw [br_iff]; refine ⟨fun q => no (good_no hp gf (.inl (by simp only [br_iff, need_iff, andB_t, andB_f, orB_t, orB_f, notB_t, notB_f, leI_t, leI_f, ltI_t, ltI_f, eqI_t, eqI_f, leN_t, leN_f, eqN_t, eqN_f, eqS_t, eqS_f, eqB_t, eqB_f, catOk_t, leC_t] at q; omega))), fun g1 => ?_⟩
      rw [br_iff]; refine ⟨fun q => no (good_no hp gf (.inr (.inl (by simp only [br_iff, need_iff, andB_t, andB_f, orB_t, orB_f, notB_t, notB_f, leI_t, leI_f, ltI_t, ltI_f, eqI_t, eqI_f, leN_t, leN_f, eqN_t, eqN_f, eqS_t, eqS_f, eqB_t, eqB_f, catOk_t, leC_t] at q; omega)))), fun g2 => ?_⟩
      simp only [br_iff, need_iff, andB_t, andB_f, orB_t, orB_f, notB_t, notB_f, leI_t, leI_f, ltI_t, ltI_f, eqI_t, eqI_f, leN_t, leN_f, eqN_t, eqN_f, eqS_t, eqS_f, eqB_t, eqB_f, catOk_t, leC_t] at g1 g2
      rw [br_iff]; refine ⟨fun q => ?_, fun q => rest (by simp only [br_iff, need_iff, andB_t, andB_f, orB_t, orB_f, notB_t, notB_f, leI_t, leI_f, ltI_t, ltI_f, eqI_t, eqI_f, leN_t, leN_f, eqN_t, eqN_f, eqS_t, eqS_f, eqB_t, eqB_f, catOk_t, leC_t] at q; obtain rfl : k = 0 := by omega
                                                          unfold prevId; rw [if_pos rfl]; omega) g2⟩
      obtain ⟨j, rfl⟩ : ∃ j, k = j + 1 := ⟨k - 1, by simp only [br_iff, need_iff, andB_t, andB_f, orB_t, orB_f, notB_t, notB_f, leI_t, leI_f, ltI_t, ltI_f, eqI_t, eqI_f, leN_t, leN_f, eqN_t, eqN_f, eqS_t, eqS_f, eqB_t, eqB_f, catOk_t, leC_t] at q; omega⟩
      have e1 : subI .i64 ((j + 1 : Nat) : Int) 1 = (j : Int) := by rw [subI_i64 (by omega) (by omega)]; omega
      have hltj : j < l.length := by omega
      rw [e1]
      have ge : l[j]? = some l[j] := List.getElem?_eq_getElem hltj
      generalize l[j] = e at ge
      have re := windowV_row ge
      have ke : okRow (windowV l) (Int.toNat (j : Int)) 8 = true := by simpa using windowV_ok (l := l) (i := j) hltj
      have ne : andB (leI 0 (j : Int)) (ltI (j : Int) (l.length : Int)) = true := by simp only [br_iff, need_iff, andB_t, andB_f, orB_t, orB_f, notB_t, notB_f, leI_t, leI_f, ltI_t, ltI_f, eqI_t, eqI_f, leN_t, leN_f, eqN_t, eqN_f, eqS_t, eqS_f, eqB_t, eqB_f, catOk_t, leC_t]; omega
      rw [need_iff]; refine ⟨ne, ?_⟩
      rw [need_iff]; refine ⟨ke, ?_⟩
      rw [re]
      refine ⟨e.id, rfl, ?_⟩
      rw [prevId_succ ge] at rest
      rw [br_iff]
      exact ⟨fun q => no (good_no hp gf (.inl (by rw [prevId_succ ge]; simpa only [br_iff, need_iff, andB_t, andB_f, orB_t, orB_f, notB_t, notB_f, leI_t, leI_f, ltI_t, ltI_f, eqI_t, eqI_f, leN_t, leN_f, eqN_t, eqN_f, eqS_t, eqS_f, eqB_t, eqB_f, catOk_t, leC_t] using q))), fun q => rest (by simpa only [br_iff, need_iff, andB_t, andB_f, orB_t, orB_f, notB_t, notB_f, leI_t, leI_f, ltI_t, ltI_f, eqI_t, eqI_f, leN_t, leN_f, eqN_t, eqN_f, eqS_t, eqS_f, eqB_t, eqB_f, catOk_t, leC_t] using q) g2⟩
    · have : k = l.length := by simp only [br_iff, need_iff, andB_t, andB_f, orB_t, orB_f, notB_t, notB_f, leI_t, leI_f, ltI_t, ltI_f, eqI_t, eqI_f, leN_t, leN_f, eqN_t, eqN_f, eqS_t, eqS_f, eqB_t, eqB_f, catOk_t, leC_t] at hge; omega
      subst this
      rw [right_end (f0 := f0) q1 q2 (by omega) hp] at hK
      rw [br_iff]; refine ⟨fun q => ?_, fun q => ⟨l, rfl, by omega, ?_⟩⟩
      · rw [decide_eq_true (by simpa only [br_iff, need_iff, andB_t, andB_f, orB_t, orB_f, notB_t, notB_f, leI_t, leI_f, ltI_t, ltI_f, eqI_t, eqI_f, leN_t, leN_f, eqN_t, eqN_f, eqS_t, eqS_f, eqB_t, eqB_f, catOk_t, leC_t] using q)] at hK; exact hK
      · rw [decide_eq_false (by simpa only [br_iff, need_iff, andB_t, andB_f, orB_t, orB_f, notB_t, notB_f, leI_t, leI_f, ltI_t, ltI_f, eqI_t, eqI_f, leN_t, leN_f, eqN_t, eqN_f, eqS_t, eqS_f, eqB_t, eqB_f, catOk_t, leC_t] using q), Bool.false_or] at hK
        unfold seenW at hK
        rw [br_iff]; refine ⟨fun w => ?_, fun w => ?_⟩
        · have w : 0 ≤ idxW l f0 := by simpa only [br_iff, need_iff, andB_t, andB_f, orB_t, orB_f, notB_t, notB_f, leI_t, leI_f, ltI_t, ltI_f, eqI_t, eqI_f, leN_t, leN_f, eqN_t, eqN_f, eqS_t, eqS_f, eqB_t, eqB_f, catOk_t, leC_t] using w
          rw [decide_eq_true w, Bool.true_and] at hK
          obtain ⟨i, x, e1, e2, e3, e4, e5⟩ := idxW_found w
          rw [e1] at hK ⊢
          rw [e5] at hK
          rw [need_iff]; refine ⟨by simp only [br_iff, need_iff, andB_t, andB_f, orB_t, orB_f, notB_t, notB_f, leI_t, leI_f, ltI_t, ltI_f, eqI_t, eqI_f, leN_t, leN_f, eqN_t, eqN_f, eqS_t, eqS_f, eqB_t, eqB_f, catOk_t, leC_t]; omega, ?_⟩
          rw [need_iff]; refine ⟨by simpa using windowV_ok e3, x.gone, by rw [windowV_row e2]; rfl, hK⟩
        · have w : ¬ 0 ≤ idxW l f0 := by simp only [br_iff, need_iff, andB_t, andB_f, orB_t, orB_f, notB_t, notB_f, leI_t, leI_f, ltI_t, ltI_f, eqI_t, eqI_f, leN_t, leN_f, eqN_t, eqN_f, eqS_t, eqS_f, eqB_t, eqB_f, catOk_t, leC_t] at w; omega
          rw [decide_eq_false w] at hK; exact hK
  · exact h.elim
theorem shw_con {n : Nat} (hn : 1 ≤ n) : ConOk (evalF Tryz.prog cfgN n) 39 showCon := by
  intro vs bs K h
  unfold showCon at h
  split at h
  · rename_i id lb r t ys tx op g s
    obtain ⟨hb, hK⟩ := h
    refine run_of (lp := lpOf []) hn (fun k _ => noCt_ok _) ?_
    rw [shw_vc]
    have hl : (catS tx s).length = tx.length + s.length := List.length_append
    have e1 : maxI (subI .i64 (lenS (catS tx s)) 65536) 0 = (((catS tx s).length - 65536 : Nat) : Int) := by
      rw [subI_i64 (by unfold lenS; omega) (by unfold lenS; omega)]
      unfold maxI lenS; omega
    rw [e1]
    rw [need_iff]; refine ⟨by simp only [br_iff, need_iff, andB_t, andB_f, orB_t, orB_f, notB_t, notB_f, leI_t, leI_f, ltI_t, ltI_f, eqI_t, eqI_f, leN_t, leN_f, eqN_t, eqN_f, eqS_t, eqS_f, eqB_t, eqB_f, catOk_t, leC_t]; omega, ?_⟩
    rw [need_iff]; refine ⟨by simp only [br_iff, need_iff, andB_t, andB_f, orB_t, orB_f, notB_t, notB_f, leI_t, leI_f, ltI_t, ltI_f, eqI_t, eqI_f, leN_t, leN_f, eqN_t, eqN_f, eqS_t, eqS_f, eqB_t, eqB_f, catOk_t, leC_t, lenS]; omega, ?_⟩
    have e2 : cutS (catS tx s) (((catS tx s).length - 65536 : Nat) : Int) (lenS (catS tx s)) = showT tx s := by
      simp only [cutS, lenS, Int.toNat_natCast, showT]
      exact List.take_of_length_le (by simp [catS])
    rw [e2]; exact hK
  · exact h.elim
theorem nms_con {n : Nat} (hn : 1 ≤ n) : ConOk (evalF Tryz.prog cfgN n) 69 namesCon := by
  intro vs bs K h
  unfold namesCon at h
  split at h
  · rename_i a
    refine run_of (lp := lpOf []) hn (fun k _ => noCt_ok _) ?_
    rw [nms_vc]
    unfold nameK modeK at h
    rw [br_iff]; refine ⟨fun q => by obtain rfl : a = 1 := by simpa only [br_iff, need_iff, andB_t, andB_f, orB_t, orB_f, notB_t, notB_f, leI_t, leI_f, ltI_t, ltI_f, eqI_t, eqI_f, leN_t, leN_f, eqN_t, eqN_f, eqS_t, eqS_f, eqB_t, eqB_f, catOk_t, leC_t] using q
                                     exact h, fun q1 => ?_⟩
    rw [br_iff]; refine ⟨fun q => by obtain rfl : a = 2 := by simpa only [br_iff, need_iff, andB_t, andB_f, orB_t, orB_f, notB_t, notB_f, leI_t, leI_f, ltI_t, ltI_f, eqI_t, eqI_f, leN_t, leN_f, eqN_t, eqN_f, eqS_t, eqS_f, eqB_t, eqB_f, catOk_t, leC_t] using q
                                     exact h, fun q2 => ?_⟩
    rw [br_iff]; refine ⟨fun q => by obtain rfl : a = 3 := by simpa only [br_iff, need_iff, andB_t, andB_f, orB_t, orB_f, notB_t, notB_f, leI_t, leI_f, ltI_t, ltI_f, eqI_t, eqI_f, leN_t, leN_f, eqN_t, eqN_f, eqS_t, eqS_f, eqB_t, eqB_f, catOk_t, leC_t] using q
                                     exact h, fun q3 => ?_⟩
    rw [br_iff]; refine ⟨fun q => by obtain rfl : a = 4 := by simpa only [br_iff, need_iff, andB_t, andB_f, orB_t, orB_f, notB_t, notB_f, leI_t, leI_f, ltI_t, ltI_f, eqI_t, eqI_f, leN_t, leN_f, eqN_t, eqN_f, eqS_t, eqS_f, eqB_t, eqB_f, catOk_t, leC_t] using q
                                     exact h, fun q4 => ?_⟩
    simp only [br_iff, need_iff, andB_t, andB_f, orB_t, orB_f, notB_t, notB_f, leI_t, leI_f, ltI_t, ltI_f, eqI_t, eqI_f, leN_t, leN_f, eqN_t, eqN_f, eqS_t, eqS_f, eqB_t, eqB_f, catOk_t, leC_t] at q1 q2 q3 q4
    simp only [if_neg q1, if_neg q2, if_neg q3, if_neg q4] at h
    exact h
  · exact h.elim
theorem ten_con {n : Nat} (hn : 2 ≤ n) : ConOk (evalF Tryz.prog cfgN n) 68 tenCon := by
  intro vs bs K h
  unfold tenCon at h
  split at h
  · rename_i a
    obtain ⟨h1, h2, hK⟩ := h
    obtain ⟨r, out, e, rfl, rfl⟩ := text_run hn (b := 10) h1 h2
    refine ⟨_, _, e, ?_⟩
    have : textF a 10 = textN 10 a := by unfold textF; rw [if_pos (by omega)]; rfl
    rw [this]; exact hK
  · exact h.elim
theorem rten_con {n : Nat} (hn : 2 ≤ n) : ConOk (evalF Tryz.prog cfgN n) 56 tenCon := by
  intro vs bs K h
  unfold tenCon at h
  split at h
  · rename_i a
    obtain ⟨h1, h2, hK⟩ := h
    obtain ⟨r, out, e, rfl, rfl⟩ := rtext_run hn (b := 10) h1 h2
    refine ⟨_, _, e, ?_⟩
    have : textF a 10 = textN 10 a := by unfold textF; rw [if_pos (by omega)]; rfl
    rw [this]; exact hK
  · exact h.elim
theorem fnd_con {n : Nat} (hn : 4 ≤ n) : ConOk (evalF Tryz.prog cfgN n) 33 findCon := by
  intro vs bs K h
  unfold findCon at h
  split at h
  · rename_i nx f0 xs id
    obtain ⟨l, rfl, hb, hid, hY, hN⟩ := h
    refine run_of (lp := lpOf []) (by omega) (ct := ctOf [(30, idxCon), (68, tenCon), (69, namesCon)])
      (fun k hk => ctOf_ok (ctOf_cons (idx_con (by omega)) (ctOf_cons (ten_con (by omega)) (ctOf_cons (nms_con (by omega)) (ctOf_nil _))))) ?_
    rw [fnd_vc]
    rw [br_iff]; refine ⟨fun q => ?_, fun q1 => ?_⟩
    · exact hY ⟨1, [47], 2147484013, -1, 0⟩ (by unfold fileF; rw [if_pos (by simpa only [br_iff, need_iff, andB_t, andB_f, orB_t, orB_f, notB_t, notB_f, leI_t, leI_f, ltI_t, ltI_f, eqI_t, eqI_f, leN_t, leN_f, eqN_t, eqN_f, eqS_t, eqS_f, eqB_t, eqB_f, catOk_t, leC_t] using q)])
    rw [br_iff]; refine ⟨fun q => ?_, fun q2 => ?_⟩
    · simp only [br_iff, need_iff, andB_t, andB_f, orB_t, orB_f, notB_t, notB_f, leI_t, leI_f, ltI_t, ltI_f, eqI_t, eqI_f, leN_t, leN_f, eqN_t, eqN_f, eqS_t, eqS_f, eqB_t, eqB_f, catOk_t, leC_t] at q1
      exact hY ⟨2, [102, 111, 99, 117, 115], 438, -1, 0⟩ (by unfold fileF; rw [if_neg q1, if_pos (by simpa only [br_iff, need_iff, andB_t, andB_f, orB_t, orB_f, notB_t, notB_f, leI_t, leI_f, ltI_t, ltI_f, eqI_t, eqI_f, leN_t, leN_f, eqN_t, eqN_f, eqS_t, eqS_f, eqB_t, eqB_f, catOk_t, leC_t] using q)])
    simp only [br_iff, need_iff, andB_t, andB_f, orB_t, orB_f, notB_t, notB_f, leI_t, leI_f, ltI_t, ltI_f, eqI_t, eqI_f, leN_t, leN_f, eqN_t, eqN_f, eqS_t, eqS_f, eqB_t, eqB_f, catOk_t, leC_t] at q1 q2
    rw [br_iff]; refine ⟨fun q => hN (by unfold fileF; rw [if_neg q1, if_neg q2, if_pos (by simpa only [br_iff, need_iff, andB_t, andB_f, orB_t, orB_f, notB_t, notB_f, leI_t, leI_f, ltI_t, ltI_f, eqI_t, eqI_f, leN_t, leN_f, eqN_t, eqN_f, eqS_t, eqS_f, eqB_t, eqB_f, catOk_t, leC_t] using q)]), fun q3 => ⟨l, rfl, by omega, ?_⟩⟩
    have q3 : ¬ id < 16 := by simp only [br_iff, need_iff, andB_t, andB_f, orB_t, orB_f, notB_t, notB_f, leI_t, leI_f, ltI_t, ltI_f, eqI_t, eqI_f, leN_t, leN_f, eqN_t, eqN_f, eqS_t, eqS_f, eqB_t, eqB_f, catOk_t, leC_t] at q3; omega
    have eF : fileF l id = if idxW l (divI id 16) < 0 ∨ 6 ≤ modI id 16 ∨ (modI id 16 = 0 ∧ (wAt l (idxW l (divI id 16))).gone = true) then none
        else if modI id 16 = 0 then some ⟨id, textN 10 (divI id 16), 2147484013, idxW l (divI id 16), 0⟩
        else some ⟨id, nameK (modI id 16), modeK (modI id 16), idxW l (divI id 16), modI id 16⟩ := by
      unfold fileF; rw [if_neg q1, if_neg q2, if_neg q3]
    have e1 : quoI .i64 id 16 = divI id 16 := quoI_i64 (by omega) hid (by omega)
    have e2 : id.tmod 16 = modI id 16 := tmod_pos (by omega)
    rw [e1, e2]
    have hm : 0 ≤ modI id 16 ∧ modI id 16 < 16 := by unfold modI; omega
    have hd : 0 ≤ divI id 16 ∧ divI id 16 ≤ 9223372036854775807 := by unfold divI; omega
    rw [br_iff]; refine ⟨fun q => hN (by rw [eF, if_pos (.inl (by simpa only [br_iff, need_iff, andB_t, andB_f, orB_t, orB_f, notB_t, notB_f, leI_t, leI_f, ltI_t, ltI_f, eqI_t, eqI_f, leN_t, leN_f, eqN_t, eqN_f, eqS_t, eqS_f, eqB_t, eqB_f, catOk_t, leC_t] using q))]), fun q4 => ?_⟩
    have q4 : 0 ≤ idxW l (divI id 16) := by simp only [br_iff, need_iff, andB_t, andB_f, orB_t, orB_f, notB_t, notB_f, leI_t, leI_f, ltI_t, ltI_f, eqI_t, eqI_f, leN_t, leN_f, eqN_t, eqN_f, eqS_t, eqS_f, eqB_t, eqB_f, catOk_t, leC_t] at q4; omega
    obtain ⟨i, x, g1, g2, g3, g4, g5⟩ := idxW_found q4
    rw [g1, g5] at eF
    rw [g1]
    rw [br_iff]; refine ⟨fun q => hN (by rw [eF, if_pos (.inr (.inl (by simpa only [br_iff, need_iff, andB_t, andB_f, orB_t, orB_f, notB_t, notB_f, leI_t, leI_f, ltI_t, ltI_f, eqI_t, eqI_f, leN_t, leN_f, eqN_t, eqN_f, eqS_t, eqS_f, eqB_t, eqB_f, catOk_t, leC_t] using q)))]), fun q5 => ?_⟩
    have q5 : modI id 16 < 6 := by simp only [br_iff, need_iff, andB_t, andB_f, orB_t, orB_f, notB_t, notB_f, leI_t, leI_f, ltI_t, ltI_f, eqI_t, eqI_f, leN_t, leN_f, eqN_t, eqN_f, eqS_t, eqS_f, eqB_t, eqB_f, catOk_t, leC_t] at q5; omega
    rw [br_iff]; refine ⟨fun q => ?_, fun q => ?_⟩
    · have q : modI id 16 = 0 := by simpa only [br_iff, need_iff, andB_t, andB_f, orB_t, orB_f, notB_t, notB_f, leI_t, leI_f, ltI_t, ltI_f, eqI_t, eqI_f, leN_t, leN_f, eqN_t, eqN_f, eqS_t, eqS_f, eqB_t, eqB_f, catOk_t, leC_t] using q
      rw [need_iff]; refine ⟨by simp only [br_iff, need_iff, andB_t, andB_f, orB_t, orB_f, notB_t, notB_f, leI_t, leI_f, ltI_t, ltI_f, eqI_t, eqI_f, leN_t, leN_f, eqN_t, eqN_f, eqS_t, eqS_f, eqB_t, eqB_f, catOk_t, leC_t, windowV_lenL]; omega, ?_⟩
      rw [need_iff]; refine ⟨by simpa using windowV_ok g3, x.gone, by rw [windowV_row g2]; rfl, ?_⟩
      rw [br_iff]; refine ⟨fun w => hN (by rw [eF, if_pos (.inr (.inr ⟨q, w⟩))]), fun w => ?_⟩
      unfold fnd_vc_1
      rw [e1, e2, g1, q]
      rw [br_iff]; refine ⟨fun _ => ⟨by omega, hd.2, ?_⟩, fun w => by simp [eqI] at w⟩
      rw [q, if_neg (by simp [w]), if_pos rfl] at eF
      exact hY _ eF
    · have q : ¬ modI id 16 = 0 := by simpa only [br_iff, need_iff, andB_t, andB_f, orB_t, orB_f, notB_t, notB_f, leI_t, leI_f, ltI_t, ltI_f, eqI_t, eqI_f, leN_t, leN_f, eqN_t, eqN_f, eqS_t, eqS_f, eqB_t, eqB_f, catOk_t, leC_t] using q
      unfold fnd_vc_1
      rw [e1, e2, g1]
      rw [br_iff]; refine ⟨fun w => absurd (by simpa only [br_iff, need_iff, andB_t, andB_f, orB_t, orB_f, notB_t, notB_f, leI_t, leI_f, ltI_t, ltI_f, eqI_t, eqI_f, leN_t, leN_f, eqN_t, eqN_f, eqS_t, eqS_f, eqB_t, eqB_f, catOk_t, leC_t] using w) q, fun _ => ?_⟩
      rw [if_neg (by rintro (w | w | w); omega; omega; exact q w.1), if_neg q] at eF
      exact hY _ eF
  · exact h.elim
end Go.Proofs.YtdbbpibfejchfaaGreatDoor
namespace Go.Proofs.YtdbbpibfejchfaaGreatDoor
open Go.RowKit
set_option maxRecDepth 100000
set_option linter.unusedVariables false
set_option linter.unusedSimpArgs false
def delCon : Con := fun vs bs K => match vs, bs with
  | [.ref 0 0 n m, .int .i64 i, .int .i64 j], [⟨true, false, true, xs, 0⟩] => ∃ l : List Window, ∃ k : Nat, xs = windowV l ∧ n = l.length ∧ m = l.length ∧ i = (k : Int) ∧ j = (k : Int) + 1 ∧ k < l.length ∧ l.length ≤ 100000 ∧
      ∀ ys, K (.ref 0 0 (l.length - 1) l.length) [⟨true, false, true, windowV (l.eraseIdx k) ++ ys, 0⟩]
  | _, _ => False

def permCon : Con := fun vs bs K => match vs, bs with
  | [.int .i64 m], [] => m ≤ 9223372036854775807 ∧ -9223372036854775808 ≤ m ∧ K (.tup [.int .i64 (permF m).1, .int .i64 (permF m).2]) []
  | _, _ => False

def cmdCon : Con := fun vs bs K => match vs, bs with
  | [.str s], [] => s.length ≤ 4611686018427387904 ∧ K (.str (cmdF s)) []
  | _, _ => False

def numCon : Con := fun vs bs K => match vs, bs with
  | [.str s, .int .i64 10, .int .i64 1048575], [] => s.length ≤ 4611686018427387904 ∧ (∀ n, numF s = some n → K (.tup [.int .i64 n, .int .i64 0]) []) ∧ (numF s = none → K (.tup [.int .i64 0, .int .i64 5]) [])
  | _, _ => False

def makeCon : Con := fun vs bs K => match vs, bs with
  | [.agg [.int .i64 n, .int .i64 f, .lst xs], .str s], [] => ∃ l, xs = windowV l ∧ smallL l ∧ (n ≤ 9223372036854775807 ∧ -9223372036854775808 ≤ n) ∧
      K (.tup [.agg [.int .i64 (makeF ⟨n, f, l⟩ s).1.next, .int .i64 (makeF ⟨n, f, l⟩ s).1.focus, .lst (windowV (makeF ⟨n, f, l⟩ s).1.l)], .int .i64 (makeF ⟨n, f, l⟩ s).2.1, .int .i64 (makeF ⟨n, f, l⟩ s).2.2]) []
  | _, _ => False

def focusCon : Con := fun vs bs K => match vs, bs with
  | [.agg [.int .i64 n, .int .i64 f, .lst xs], .int .i64 id], [] => ∃ l, xs = windowV l ∧ smallL l ∧
      K (.tup [.agg [.int .i64 (focusF ⟨n, f, l⟩ id).1.next, .int .i64 (focusF ⟨n, f, l⟩ id).1.focus, .lst (windowV (focusF ⟨n, f, l⟩ id).1.l)], .int .i64 (focusF ⟨n, f, l⟩ id).2]) []
  | _, _ => False

def wtypeCon : Con := fun vs bs K => match vs, bs with
  | [.agg [.int .i64 n, .int .i64 f, .lst xs], .str s], [] => ∃ l, xs = windowV l ∧ rightW ⟨n, f, l⟩ = true ∧ s.length ≤ 100000 ∧
      K (.agg [.int .i64 (typeW ⟨n, f, l⟩ s).next, .int .i64 (typeW ⟨n, f, l⟩ s).focus, .lst (windowV (typeW ⟨n, f, l⟩ s).l)]) []
  | _, _ => False

def openCon : Con := fun vs bs K => match vs, bs with
  | [.agg [.int .i64 n, .int .i64 f, .lst xs], .int .i64 id, .int .i64 m], [] => ∃ l, xs = windowV l ∧ rightW ⟨n, f, l⟩ = true ∧ id ≤ 9223372036854775807 ∧ m ≤ 9223372036854775807 ∧ -9223372036854775808 ≤ m ∧
      K (.tup [.agg [.int .i64 (openF ⟨n, f, l⟩ id m).1.next, .int .i64 (openF ⟨n, f, l⟩ id m).1.focus, .lst (windowV (openF ⟨n, f, l⟩ id m).1.l)], .int .i64 (openF ⟨n, f, l⟩ id m).2]) []
  | _, _ => False

def inW (l : List Window) (w d : Int) : Prop := d = 3 ∨ d = 4 → ∃ (i : Nat), w = (i : Int) ∧ i < l.length ∧ l.length ≤ 1000

def contCon : Con := fun vs bs K => match vs, bs with
  | [.agg [.int .i64 n, .int .i64 f, .lst xs], .agg [.int .i64 a, .str nm, .int .i64 b, .int .i64 w, .int .i64 d]], [] => ∃ l, xs = windowV l ∧ -9223372036854775808 ≤ f ∧ f ≤ 9223372036854775807 ∧ inW l w d ∧
      K (.str (contF ⟨n, f, l⟩ ⟨a, nm, b, w, d⟩)) []
  | _, _ => False

def wreadCon : Con := fun vs bs K => match vs, bs with
  | [.agg [.int .i64 n, .int .i64 f, .lst xs], .int .i64 id, .int .i64 off, .int .i64 cnt], [] => ∃ l, xs = windowV l ∧ rightW ⟨n, f, l⟩ = true ∧ id ≤ 9223372036854775807 ∧
      K (.tup [.agg [.int .i64 (readW ⟨n, f, l⟩ id off cnt).1.next, .int .i64 (readW ⟨n, f, l⟩ id off cnt).1.focus, .lst (windowV (readW ⟨n, f, l⟩ id off cnt).1.l)], .str (readW ⟨n, f, l⟩ id off cnt).2.1, .bool (readW ⟨n, f, l⟩ id off cnt).2.2.1, .int .i64 (readW ⟨n, f, l⟩ id off cnt).2.2.2]) []
  | _, _ => False

def deletedCon : Con := fun vs bs K => match vs, bs with
  | [.agg [.int .i64 n, .int .i64 f, .ref 0 0 c k], .int .i64 i], [⟨true, false, true, ys, 0⟩] => ∃ l : List Window, ∃ j : Nat, ys = windowV l ∧ c = l.length ∧ k = l.length ∧ i = (j : Int) ∧ j < l.length ∧ l.length ≤ 1000 ∧
      ∀ (m : Nat) (zs : List (List V)), K (.agg [.int .i64 (deletedF ⟨n, f, l⟩ i).next, .int .i64 (deletedF ⟨n, f, l⟩ i).focus, .ref 0 0 (deletedF ⟨n, f, l⟩ i).l.length m]) [⟨true, false, true, windowV (deletedF ⟨n, f, l⟩ i).l ++ zs, 0⟩]
  | _, _ => False

def controlCon : Con := fun vs bs K => match vs, bs with
  | [.agg [.int .i64 n, .int .i64 f, .ref 0 0 c k], .agg [.int .i64 a, .str nm, .int .i64 b, .int .i64 w, .int .i64 d], .str s], [⟨true, false, true, ys, 0⟩] => ∃ l : List Window, ∃ j : Nat, ys = windowV l ∧ c = l.length ∧ k = l.length ∧ w = (j : Int) ∧ j < l.length ∧ rightW ⟨n, f, l⟩ = true ∧ s.length ≤ 4611686018427387904 ∧
      ∀ (m : Nat) (zs : List (List V)), K (.tup [.agg [.int .i64 (controlF ⟨n, f, l⟩ w d (cmdF s)).1.next, .int .i64 (controlF ⟨n, f, l⟩ w d (cmdF s)).1.focus, .ref 0 0 (controlF ⟨n, f, l⟩ w d (cmdF s)).1.l.length m], .int .i64 (controlF ⟨n, f, l⟩ w d (cmdF s)).2]) [⟨true, false, true, windowV (controlF ⟨n, f, l⟩ w d (cmdF s)).1.l ++ zs, 0⟩]
  | _, _ => False

def refocusCon : Con := fun vs bs K => match vs, bs with
  | [.agg [.int .i64 n, .int .i64 f, .lst xs], .str s], [] => ∃ l, xs = windowV l ∧ smallL l ∧ s.length ≤ 4611686018427387904 ∧
      K (.tup [.agg [.int .i64 (refocusF ⟨n, f, l⟩ s).1.next, .int .i64 (refocusF ⟨n, f, l⟩ s).1.focus, .lst (windowV (refocusF ⟨n, f, l⟩ s).1.l)], .int .i64 (refocusF ⟨n, f, l⟩ s).2.1, .int .i64 (refocusF ⟨n, f, l⟩ s).2.2]) []
  | _, _ => False

def writeCon : Con := fun vs bs K => match vs, bs with
  | [.agg [.int .i64 n, .int .i64 f, .lst xs], .int .i64 id, .str s], [] => ∃ l, xs = windowV l ∧ rightW ⟨n, f, l⟩ = true ∧ id ≤ 9223372036854775807 ∧ s.length ≤ 1000000 ∧
      K (.tup [.agg [.int .i64 (writeW ⟨n, f, l⟩ id s).1.next, .int .i64 (writeW ⟨n, f, l⟩ id s).1.focus, .lst (windowV (writeW ⟨n, f, l⟩ id s).1.l)], .int .i64 (writeW ⟨n, f, l⟩ id s).2.1, .int .i64 (writeW ⟨n, f, l⟩ id s).2.2]) []
  | _, _ => False

def closeCon : Con := fun vs bs K => match vs, bs with
  | [.agg [.int .i64 n, .int .i64 f, .lst xs], .int .i64 id, .int .i64 m], [] => ∃ l, xs = windowV l ∧ rightW ⟨n, f, l⟩ = true ∧ id ≤ 9223372036854775807 ∧
      K (.agg [.int .i64 (closeW ⟨n, f, l⟩ id).next, .int .i64 (closeW ⟨n, f, l⟩ id).focus, .lst (windowV (closeW ⟨n, f, l⟩ id).l)]) []
  | _, _ => False

structure ddC where
  n : Int
  z0 : Int
  z1 : Int
  ca : Nat
  ka : Nat
  cb : Nat
  kb : Nat
  cnt : Int
  ys : List (List V)
structure ddX where
  f : Int
  i : Int
def ddSt (c : ddC) (x : ddX) : St := ⟨[(2, .ptr 1 0 0), (4, .ptr 2 0 0), (40, .ref 0 0 c.ca c.ka), (41, .int .i64 c.cnt), (42, .int .i64 x.i)], [(0, ⟨true, false, true, c.ys, 0⟩), (1, ⟨true, true, true, [[.int .i64 c.n, .int .i64 x.f, .ref 0 0 c.cb c.kb]], 0⟩), (2, ⟨true, true, true, [[.int .i64 c.z0, .int .i64 c.z1, .nils]], 0⟩)]⟩
set_option maxHeartbeats 4000000 in
def ddUn (s : St) : Option (ddC × ddX) :=
  match s with
  | ⟨[(q0, .ptr q1 q2 q3), (q4, .ptr q5 q6 q7), (q8, .ref q9 q10 ca ka), (q11, .int .i64 cnt), (q12, .int .i64 i)], [(q13, ⟨true, false, true, ys, q14⟩), (q15, ⟨true, true, true, [[.int .i64 n, .int .i64 f, .ref q16 q17 cb kb]], q18⟩), (q19, ⟨true, true, true, [[.int .i64 z0, .int .i64 z1, .nils]], q20⟩)]⟩ => bif Nat.beq q0 2 && Nat.beq q1 1 && Nat.beq q2 0 && Nat.beq q3 0 && Nat.beq q4 4 && Nat.beq q5 2 && Nat.beq q6 0 && Nat.beq q7 0 && Nat.beq q8 40 && Nat.beq q9 0 && Nat.beq q10 0 && Nat.beq q11 41 && Nat.beq q12 42 && Nat.beq q13 0 && Nat.beq q14 0 && Nat.beq q15 1 && Nat.beq q16 0 && Nat.beq q17 0 && Nat.beq q18 0 && Nat.beq q19 2 && Nat.beq q20 0 then some (⟨n, z0, z1, ca, ka, cb, kb, cnt, ys⟩, ⟨f, i⟩) else none
  | _ => none
set_option maxHeartbeats 4000000 in
def ddL (inv : ddC → ddX → ddX → Nat → Prop) : LoopS where
  C := ddC
  X := ddX
  st := ddSt
  un := ddUn
  ok := by
    intro s c x h
    unfold ddUn at h
    split at h
    · simp only [Bool.cond_eq_ite] at h
      split at h
      · rename_i hg
        simp only [Bool.and_eq_true, Nat.beq_eq] at hg
        obtain ⟨⟨⟨⟨⟨⟨⟨⟨⟨⟨⟨⟨⟨⟨⟨⟨⟨⟨⟨⟨rfl, rfl⟩, rfl⟩, rfl⟩, rfl⟩, rfl⟩, rfl⟩, rfl⟩, rfl⟩, rfl⟩, rfl⟩, rfl⟩, rfl⟩, rfl⟩, rfl⟩, rfl⟩, rfl⟩, rfl⟩, rfl⟩, rfl⟩, rfl⟩ := hg
        cases h
        rfl
      · cases h
    · cases h
  inv := inv

def prm_vc_4 (m : Int) (K : V → List Bk → Prop) (n2 : Int) : Prop :=
  (
              br (leI 0 m) (
                br (eqI ((quoI IntKind.i64 m 16).tmod 2) 1) (
                  K (V.tup [V.int IntKind.i64 (orI IntKind.i64 n2 2), V.int IntKind.i64 0]) []) (
                  K (V.tup [V.int IntKind.i64 n2, V.int IntKind.i64 0]) [])) (
                K (V.tup [V.int IntKind.i64 n2, V.int IntKind.i64 0]) []))
def prm_vc_3 (m : Int) (K : V → List Bk → Prop) : Prop :=
  (
          br (ltI m 0) (
            K (V.tup [V.int IntKind.i64 0, V.int IntKind.i64 12]) []) (
            br (ltI 3 m) (
              K (V.tup [V.int IntKind.i64 0, V.int IntKind.i64 12]) []) (
              need (andB (leI 0 m) (ltI m 4)) (
              need (okRow [[V.int IntKind.i64 4], [V.int IntKind.i64 2], [V.int IntKind.i64 6], [V.int IntKind.i64 1]] (0 + m.toNat) 1) (
              ∃ n2 : Int, ((partAt [[V.int IntKind.i64 4], [V.int IntKind.i64 2], [V.int IntKind.i64 6], [V.int IntKind.i64 1]] (0 + m.toNat) 0 1 : Option (List V)) = some [V.int IntKind.i64 n2]) ∧ (prm_vc_4 m K n2))))))
def prm_vc_1 (m : Int) (K : V → List Bk → Prop) : Prop :=
  (
      br (leI 0 m) (
        br (eqI ((quoI IntKind.i64 m 64).tmod 2) 1) (
          br (ltI (subI IntKind.i64 m 64) 0) (
            K (V.tup [V.int IntKind.i64 0, V.int IntKind.i64 12]) []) (
            br (ltI 3 (subI IntKind.i64 m 64)) (
              K (V.tup [V.int IntKind.i64 0, V.int IntKind.i64 12]) []) (
              need (andB (leI 0 (subI IntKind.i64 m 64)) (ltI (subI IntKind.i64 m 64) 4)) (
              need (okRow [[V.int IntKind.i64 4], [V.int IntKind.i64 2], [V.int IntKind.i64 6], [V.int IntKind.i64 1]] (0 + (subI IntKind.i64 m 64).toNat) 1) (
              ∃ n2 : Int, ((partAt [[V.int IntKind.i64 4], [V.int IntKind.i64 2], [V.int IntKind.i64 6], [V.int IntKind.i64 1]] (0 + (subI IntKind.i64 m 64).toNat) 0 1 : Option (List V)) = some [V.int IntKind.i64 n2]) ∧ (prm_vc_4 m K n2)))))) (prm_vc_3 m K)) (prm_vc_3 m K))
def prm_vc_2 (m : Int) (K : V → List Bk → Prop) : Prop :=
  (
          br (ltI (subI IntKind.i64 m 16) 0) (
            K (V.tup [V.int IntKind.i64 0, V.int IntKind.i64 12]) []) (
            br (ltI 3 (subI IntKind.i64 m 16)) (
              K (V.tup [V.int IntKind.i64 0, V.int IntKind.i64 12]) []) (
              need (andB (leI 0 (subI IntKind.i64 m 16)) (ltI (subI IntKind.i64 m 16) 4)) (
              need (okRow [[V.int IntKind.i64 4], [V.int IntKind.i64 2], [V.int IntKind.i64 6], [V.int IntKind.i64 1]] (0 + (subI IntKind.i64 m 16).toNat) 1) (
              ∃ n2 : Int, ((partAt [[V.int IntKind.i64 4], [V.int IntKind.i64 2], [V.int IntKind.i64 6], [V.int IntKind.i64 1]] (0 + (subI IntKind.i64 m 16).toNat) 0 1 : Option (List V)) = some [V.int IntKind.i64 n2]) ∧ (prm_vc_4 m K n2))))))
theorem prm_vc (m : Int) (K : V → List Bk → Prop) : vcF Tryz.prog cfgN (ctOf [(74, inlC Tryz.prog cfgN (ctOf []) 74)]) (lpOf []) 40 [.int .i64 m] [] K = (
  br (leI 0 m) (
    br (eqI ((quoI IntKind.i64 m 16).tmod 2) 1) (
      br (leI 0 m) (
        br (eqI ((quoI IntKind.i64 m 64).tmod 2) 1) (
          br (ltI (subI IntKind.i64 (subI IntKind.i64 m 16) 64) 0) (
            K (V.tup [V.int IntKind.i64 0, V.int IntKind.i64 12]) []) (
            br (ltI 3 (subI IntKind.i64 (subI IntKind.i64 m 16) 64)) (
              K (V.tup [V.int IntKind.i64 0, V.int IntKind.i64 12]) []) (
              need (andB (leI 0 (subI IntKind.i64 (subI IntKind.i64 m 16) 64)) (ltI (subI IntKind.i64 (subI IntKind.i64 m 16) 64) 4)) (
              need (okRow [[V.int IntKind.i64 4], [V.int IntKind.i64 2], [V.int IntKind.i64 6], [V.int IntKind.i64 1]] (0 + (subI IntKind.i64 (subI IntKind.i64 m 16) 64).toNat) 1) (
              ∃ n2 : Int, ((partAt [[V.int IntKind.i64 4], [V.int IntKind.i64 2], [V.int IntKind.i64 6], [V.int IntKind.i64 1]] (0 + (subI IntKind.i64 (subI IntKind.i64 m 16) 64).toNat) 0 1 : Option (List V)) = some [V.int IntKind.i64 n2]) ∧ (prm_vc_4 m K n2)))))) (prm_vc_2 m K)) (prm_vc_2 m K)) (prm_vc_1 m K)) (prm_vc_1 m K)) := by kernel_rfl

theorem cmd_vc (s : List UInt8) (K : V → List Bk → Prop) : vcF Tryz.prog cfgN (ctOf []) (lpOf []) 76 [.str s] [] K = (
  br (ltI 0 (lenS s)) (
    need (andB (leI 0 (subI IntKind.i64 (lenS s) 1)) (ltI (subI IntKind.i64 (lenS s) 1) (lenS s))) (
    br (eqI (atS s (subI IntKind.i64 (lenS s) 1)) 10) (
      need (andB (leI 0 (subI IntKind.i64 (lenS s) 1)) (leI (subI IntKind.i64 (lenS s) 1) (lenS s))) (
      K (V.str (cutS s 0 (subI IntKind.i64 (lenS s) 1))) [])) (
      K (V.str s) []))) (
    K (V.str s) [])) := by kernel_rfl

theorem mk_vc (n f : Int) (xs : List (List V)) (s : List UInt8) (K : V → List Bk → Prop) : vcF Tryz.prog cfgN (ctOf [(32, wcloneCon)]) (lpOf []) 13 [.agg [.int .i64 n, .int .i64 f, .lst xs], .str s] [] K = (
  ∃ l5 : List Window, ((xs : List (List V)) = windowV l5) ∧ (
  (smallL l5) ∧ (
  br (ltI 64 (lenS s)) (
    K (V.tup [V.agg [V.int IntKind.i64 n, V.int IntKind.i64 f, V.lst (List.take l5.length (List.drop 0 (windowV l5)))], V.int IntKind.i64 0, V.int IntKind.i64 4]) []) (
    br (leI 16 (lenL xs)) (
      K (V.tup [V.agg [V.int IntKind.i64 n, V.int IntKind.i64 f, V.lst (List.take l5.length (List.drop 0 (windowV l5)))], V.int IntKind.i64 0, V.int IntKind.i64 22]) []) (
      br (ltI 1048575 n) (
        K (V.tup [V.agg [V.int IntKind.i64 n, V.int IntKind.i64 f, V.lst (List.take l5.length (List.drop 0 (windowV l5)))], V.int IntKind.i64 0, V.int IntKind.i64 22]) []) (
        need (headOkP 8 (windowV l5)) (
        br (leN (l5.length + 1) l5.length) (
          K (V.tup [V.agg [V.int IntKind.i64 (addI IntKind.i64 n 1), V.int IntKind.i64 n, V.lst (List.take (l5.length + 1) (List.drop 0 (List.take (0 + l5.length) (windowV l5) ++ [[V.int IntKind.i64 n, V.str s, V.bool false, V.str [], V.lst [], V.str [], V.int IntKind.i64 0, V.bool false]] ++ List.drop (0 + l5.length + 1) (windowV l5))))], V.int IntKind.i64 n, V.int IntKind.i64 0]) []) (
          need (eqN (0 + l5.length) (windowV l5).length) (
          need (leN ((l5.length + 1) * 104) 140737488355328) (
          K (V.tup [V.agg [V.int IntKind.i64 (addI IntKind.i64 n 1), V.int IntKind.i64 n, V.lst (List.take (l5.length + 1) (List.drop 0 (List.drop 0 (windowV l5) ++ [[V.int IntKind.i64 n, V.str s, V.bool false, V.str [], V.lst [], V.str [], V.int IntKind.i64 0, V.bool false]])))], V.int IntKind.i64 n, V.int IntKind.i64 0]) [])))))))))) := by kernel_rfl

theorem fo_vc (n f : Int) (xs : List (List V)) (id : Int) (K : V → List Bk → Prop) : vcF Tryz.prog cfgN (ctOf [(32, wcloneCon), (30, idxCon)]) (lpOf []) 20 [.agg [.int .i64 n, .int .i64 f, .lst xs], .int .i64 id] [] K = (
  ∃ l5 : List Window, ((xs : List (List V)) = windowV l5) ∧ (
  (smallL l5) ∧ (
  ∃ l6 : List Window, ((xs : List (List V)) = windowV l6) ∧ (
  (((l6.length : Nat) ≤ 100000)) ∧ (
  br (ltI (idxW l6 id) 0) (
    K (V.tup [V.agg [V.int IntKind.i64 n, V.int IntKind.i64 f, V.lst (List.take l5.length (List.drop 0 (windowV l5)))], V.int IntKind.i64 8]) []) (
    need (andB (leI 0 (idxW l6 id)) (ltI (idxW l6 id) (lenL xs))) (
    need (okRow xs (idxW l6 id).toNat 8) (
    ∃ b7 : Bool, ((sub (rowAt xs (idxW l6 id)) 7 1 : Option (List V)) = some [V.bool b7]) ∧ (
    br (b7) (
      K (V.tup [V.agg [V.int IntKind.i64 n, V.int IntKind.i64 f, V.lst (List.take l5.length (List.drop 0 (windowV l5)))], V.int IntKind.i64 8]) []) (
      K (V.tup [V.agg [V.int IntKind.i64 n, V.int IntKind.i64 id, V.lst (List.take l5.length (List.drop 0 (windowV l5)))], V.int IntKind.i64 0]) [])))))))))) := by kernel_rfl

theorem wt_vc (n f : Int) (xs : List (List V)) (s : List UInt8) (K : V → List Bk → Prop) : vcF Tryz.prog cfgN (ctOf [(32, wcloneCon), (30, idxCon), (38, feedCon), (39, showCon)]) (lpOf []) 15 [.agg [.int .i64 n, .int .i64 f, .lst xs], .str s] [] K = (
  ∃ l5 : List Window, ((xs : List (List V)) = windowV l5) ∧ (
  (smallL l5) ∧ (
  ∃ l6 : List Window, ((List.take l5.length (List.drop 0 (windowV l5)) : List (List V)) = windowV l6) ∧ (
  (((l6.length : Nat) ≤ 100000)) ∧ (
  br (eqI f 0) (
    K (V.agg [V.int IntKind.i64 n, V.int IntKind.i64 f, V.lst (List.take l5.length (List.drop 0 (windowV l5)))]) []) (
    br (ltI (idxW l6 f) 0) (
      K (V.agg [V.int IntKind.i64 n, V.int IntKind.i64 f, V.lst (List.take l5.length (List.drop 0 (windowV l5)))]) []) (
      need (andB (leI 0 (idxW l6 f)) (ltI (idxW l6 f) (Int.ofNat l5.length))) (
      need (okRow (windowV l5) (0 + (idxW l6 f).toNat) 8) (
      ∃ n7 : Int, ∃ s8 : List UInt8, ∃ b9 : Bool, ∃ s10 : List UInt8, ∃ xs11 : List (List V), ∃ s12 : List UInt8, ∃ n13 : Int, ∃ b14 : Bool, ((partAt (windowV l5) (0 + (idxW l6 f).toNat) 0 8 : Option (List V)) = some [V.int IntKind.i64 n7, V.str s8, V.bool b9, V.str s10, V.lst xs11, V.str s12, V.int IntKind.i64 n13, V.bool b14]) ∧ (
      ∃ l15 : List (List UInt8), ((xs11 : List (List V)) = strV l15) ∧ (
      ((rightL (Line.mk b9 s10 l15) : Bool) = true) ∧ (
      (((s.length : Nat) ≤ 100000)) ∧ (
      (((s12.length + (feedF (Line.mk b9 s10 l15) s).2.length : Nat) ≤ 4611686018427387904)) ∧ (
      need (andB (leI 0 (idxW l6 f)) (ltI (idxW l6 f) (Int.ofNat l5.length))) (
      need (okRow (windowV l5) (0 + (idxW l6 f).toNat) 8) (
      ∃ xs16 : List (List V), ((putAt (windowV l5) (0 + (idxW l6 f).toNat) 0 [V.int IntKind.i64 n7, V.str s8, V.bool (feedF (Line.mk b9 s10 l15) s).fst.1, V.str (feedF (Line.mk b9 s10 l15) s).fst.2, V.lst (strV (feedF (Line.mk b9 s10 l15) s).fst.3), V.str (showT s12 (feedF (Line.mk b9 s10 l15) s).2), V.int IntKind.i64 n13, V.bool b14] : Option (List (List V))) = some xs16) ∧ (
      K (V.agg [V.int IntKind.i64 n, V.int IntKind.i64 f, V.lst (List.take l5.length (List.drop 0 xs16))]) []))))))))))))))))) := by kernel_rfl

def op_vc_2 (n f : Int) (xs : List (List V)) (id m : Int) (K : V → List Bk → Prop) (l6 : List Window) (p8 : Place) : Prop :=
  (
            br (eqI ((quoI IntKind.i64 m 64).tmod 2) 1) (
              K (V.tup [V.agg [V.int IntKind.i64 n, V.int IntKind.i64 f, V.lst (List.take l6.length (List.drop 0 (windowV l6)))], V.int IntKind.i64 11]) []) (
              br (notB (eqI (andI IntKind.i64 (p8.3.tmod 8) (permF m).1) (permF m).1)) (
                K (V.tup [V.agg [V.int IntKind.i64 n, V.int IntKind.i64 f, V.lst (List.take l6.length (List.drop 0 (windowV l6)))], V.int IntKind.i64 11]) []) (
                br (leI 0 p8.4) (
                  br (notB (notB (eqI p8.5 0))) (
                    K (V.tup [V.agg [V.int IntKind.i64 n, V.int IntKind.i64 f, V.lst (List.take l6.length (List.drop 0 (windowV l6)))], V.int IntKind.i64 0]) []) (
                    need (andB (leI 0 p8.4) (ltI p8.4 (Int.ofNat l6.length))) (
                    need (okRow (windowV l6) (0 + p8.4.toNat) 8) (
                    ∃ n10 : Int, ((partAt (windowV l6) (0 + p8.4.toNat) 6 1 : Option (List V)) = some [V.int IntKind.i64 n10]) ∧ (
                    br (leI 9007199254740991 n10) (
                      K (V.tup [V.agg [V.int IntKind.i64 n, V.int IntKind.i64 f, V.lst (List.take l6.length (List.drop 0 (windowV l6)))], V.int IntKind.i64 22]) []) (
                      need (andB (leI 0 p8.4) (ltI p8.4 (Int.ofNat l6.length))) (
                      need (okRow (windowV l6) (0 + p8.4.toNat) 8) (
                      ∃ n11 : Int, ((partAt (windowV l6) (0 + p8.4.toNat) 6 1 : Option (List V)) = some [V.int IntKind.i64 n11]) ∧ (
                      need (andB (leI 0 p8.4) (ltI p8.4 (Int.ofNat l6.length))) (
                      need (okRow (windowV l6) (0 + p8.4.toNat) 8) (
                      ∃ xs12 : List (List V), ((putAt (windowV l6) (0 + p8.4.toNat) 6 [V.int IntKind.i64 (addI IntKind.i64 n11 1)] : Option (List (List V))) = some xs12) ∧ (
                      K (V.tup [V.agg [V.int IntKind.i64 n, V.int IntKind.i64 f, V.lst (List.take l6.length (List.drop 0 xs12))], V.int IntKind.i64 0]) [])))))))))))) (
                  K (V.tup [V.agg [V.int IntKind.i64 n, V.int IntKind.i64 f, V.lst (List.take l6.length (List.drop 0 (windowV l6)))], V.int IntKind.i64 0]) []))))
def op_vc_1 (n f : Int) (xs : List (List V)) (id m : Int) (K : V → List Bk → Prop) (l6 : List Window) (p8 : Place) : Prop :=
  (
      (((m : Int) ≤ 9223372036854775807)) ∧ (
      (((-9223372036854775808 : Int) ≤ m)) ∧ (
      br (notB (eqI (permF m).2 0)) (
        K (V.tup [V.agg [V.int IntKind.i64 n, V.int IntKind.i64 f, V.lst (List.take l6.length (List.drop 0 (windowV l6)))], V.int IntKind.i64 (permF m).2]) []) (
        br (leI 2147483648 p8.3) (
          br (notB (eqI m 0)) (
            K (V.tup [V.agg [V.int IntKind.i64 n, V.int IntKind.i64 f, V.lst (List.take l6.length (List.drop 0 (windowV l6)))], V.int IntKind.i64 10]) []) (op_vc_2 n f xs id m K l6 p8)) (op_vc_2 n f xs id m K l6 p8)))))
theorem op_vc (n f : Int) (xs : List (List V)) (id m : Int) (K : V → List Bk → Prop) : vcF Tryz.prog cfgN (ctOf [(32, wcloneCon), (33, findCon), (40, permCon), (34, inlC Tryz.prog cfgN (ctOf []) 34), (35, inlC Tryz.prog cfgN (ctOf []) 35)]) (lpOf []) 16 [.agg [.int .i64 n, .int .i64 f, .lst xs], .int .i64 id, .int .i64 m] [] K = (
  ∃ l6 : List Window, ((xs : List (List V)) = windowV l6) ∧ (
  (smallL l6) ∧ (
  ∃ l7 : List Window, ((xs : List (List V)) = windowV l7) ∧ (
  (((l7.length : Nat) ≤ 1000)) ∧ (
  (((id : Int) ≤ 9223372036854775807)) ∧ (
  (∀ p8 : Place, ((fileF l7 id : Option Place) = some p8) → (
  br (leI 0 p8.4) (
    need (andB (leI 0 p8.4) (ltI p8.4 (lenL xs))) (
    need (okRow xs p8.4.toNat 8) (
    ∃ b9 : Bool, ((sub (rowAt xs p8.4) 7 1 : Option (List V)) = some [V.bool b9]) ∧ (
    br (b9) (
      K (V.tup [V.agg [V.int IntKind.i64 n, V.int IntKind.i64 f, V.lst (List.take l6.length (List.drop 0 (windowV l6)))], V.int IntKind.i64 8]) []) (op_vc_1 n f xs id m K l6 p8))))) (op_vc_1 n f xs id m K l6 p8))) ∧ (
  ((fileF l7 id : Option Place) = none) → (
  K (V.tup [V.agg [V.int IntKind.i64 n, V.int IntKind.i64 f, V.lst (List.take l6.length (List.drop 0 (windowV l6)))], V.int IntKind.i64 8]) [])))))))) := by kernel_rfl

theorem ct_vc (n f : Int) (xs : List (List V)) (a : Int) (nm : List UInt8) (b w d : Int) (K : V → List Bk → Prop) : vcF Tryz.prog cfgN (ctOf [(68, tenCon)]) (lpOf []) 37 [.agg [.int .i64 n, .int .i64 f, .lst xs], .agg [.int .i64 a, .str nm, .int .i64 b, .int .i64 w, .int .i64 d]] [] K = (
  br (eqI a 2) (
    (((-9223372036854775808 : Int) ≤ f)) ∧ (
    (((f : Int) ≤ 9223372036854775807)) ∧ (
    K (V.str (textN 10 f)) []))) (
    br (eqI d 3) (
      need (andB (leI 0 w) (ltI w (lenL xs))) (
      need (okRow xs w.toNat 8) (
      ∃ s9 : List UInt8, ((sub (rowAt xs w) 1 1 : Option (List V)) = some [V.str s9]) ∧ (
      K (V.str s9) [])))) (
      br (eqI d 4) (
        need (andB (leI 0 w) (ltI w (lenL xs))) (
        need (okRow xs w.toNat 8) (
        ∃ s9 : List UInt8, ((sub (rowAt xs w) 5 1 : Option (List V)) = some [V.str s9]) ∧ (
        K (V.str s9) [])))) (
        K (V.str []) [])))) := by kernel_rfl

def re_vcw_1 (n f : Int) (xs : List (List V)) (id off cnt : Int) (K : V → List Bk → Prop) (p9 : Place) (l7 : List Window) : Prop :=
  (
              ∃ l10 : List Window, ((xs : List (List V)) = windowV l10) ∧ (
              (((-9223372036854775808 : Int) ≤ f)) ∧ (
              (((f : Int) ≤ 9223372036854775807)) ∧ (
              (inW l10 p9.4 p9.5) ∧ (
              need (andB (leI 0 (minI off (lenS (contF (Windows.mk n f l10) (Place.mk p9.1 p9.2 p9.3 p9.4 p9.5))))) (leI (minI off (lenS (contF (Windows.mk n f l10) (Place.mk p9.1 p9.2 p9.3 p9.4 p9.5)))) (lenS (contF (Windows.mk n f l10) (Place.mk p9.1 p9.2 p9.3 p9.4 p9.5))))) (
              need (andB (leI 0 (minI (minI cnt 65536) (lenS (cutS (contF (Windows.mk n f l10) (Place.mk p9.1 p9.2 p9.3 p9.4 p9.5)) (minI off (lenS (contF (Windows.mk n f l10) (Place.mk p9.1 p9.2 p9.3 p9.4 p9.5)))) (lenS (contF (Windows.mk n f l10) (Place.mk p9.1 p9.2 p9.3 p9.4 p9.5))))))) (leI (minI (minI cnt 65536) (lenS (cutS (contF (Windows.mk n f l10) (Place.mk p9.1 p9.2 p9.3 p9.4 p9.5)) (minI off (lenS (contF (Windows.mk n f l10) (Place.mk p9.1 p9.2 p9.3 p9.4 p9.5)))) (lenS (contF (Windows.mk n f l10) (Place.mk p9.1 p9.2 p9.3 p9.4 p9.5)))))) (lenS (cutS (contF (Windows.mk n f l10) (Place.mk p9.1 p9.2 p9.3 p9.4 p9.5)) (minI off (lenS (contF (Windows.mk n f l10) (Place.mk p9.1 p9.2 p9.3 p9.4 p9.5)))) (lenS (contF (Windows.mk n f l10) (Place.mk p9.1 p9.2 p9.3 p9.4 p9.5))))))) (
              K (V.tup [V.agg [V.int IntKind.i64 n, V.int IntKind.i64 f, V.lst (List.take l7.length (List.drop 0 (windowV l7)))], V.str (cutS (cutS (contF (Windows.mk n f l10) (Place.mk p9.1 p9.2 p9.3 p9.4 p9.5)) (minI off (lenS (contF (Windows.mk n f l10) (Place.mk p9.1 p9.2 p9.3 p9.4 p9.5)))) (lenS (contF (Windows.mk n f l10) (Place.mk p9.1 p9.2 p9.3 p9.4 p9.5)))) 0 (minI (minI cnt 65536) (lenS (cutS (contF (Windows.mk n f l10) (Place.mk p9.1 p9.2 p9.3 p9.4 p9.5)) (minI off (lenS (contF (Windows.mk n f l10) (Place.mk p9.1 p9.2 p9.3 p9.4 p9.5)))) (lenS (contF (Windows.mk n f l10) (Place.mk p9.1 p9.2 p9.3 p9.4 p9.5))))))), V.bool false, V.int IntKind.i64 0]) [])))))))
theorem re_vcw (n f : Int) (xs : List (List V)) (id off cnt : Int) (K : V → List Bk → Prop) : vcF Tryz.prog cfgN (ctOf [(32, wcloneCon), (33, findCon), (36, readCon), (37, contCon), (34, inlC Tryz.prog cfgN (ctOf []) 34), (35, inlC Tryz.prog cfgN (ctOf []) 35)]) (lpOf []) 14 [.agg [.int .i64 n, .int .i64 f, .lst xs], .int .i64 id, .int .i64 off, .int .i64 cnt] [] K = (
  ∃ l7 : List Window, ((xs : List (List V)) = windowV l7) ∧ (
  (smallL l7) ∧ (
  ∃ l8 : List Window, ((xs : List (List V)) = windowV l8) ∧ (
  (((l8.length : Nat) ≤ 1000)) ∧ (
  (((id : Int) ≤ 9223372036854775807)) ∧ (
  (∀ p9 : Place, ((fileF l8 id : Option Place) = some p9) → (
  br (leI 2147483648 p9.3) (
    K (V.tup [V.agg [V.int IntKind.i64 n, V.int IntKind.i64 f, V.lst (List.take l7.length (List.drop 0 (windowV l7)))], V.str [], V.bool false, V.int IntKind.i64 10]) []) (
    br (ltI off 0) (
      K (V.tup [V.agg [V.int IntKind.i64 n, V.int IntKind.i64 f, V.lst (List.take l7.length (List.drop 0 (windowV l7)))], V.str [], V.bool false, V.int IntKind.i64 1]) []) (
      br (ltI cnt 0) (
        K (V.tup [V.agg [V.int IntKind.i64 n, V.int IntKind.i64 f, V.lst (List.take l7.length (List.drop 0 (windowV l7)))], V.str [], V.bool false, V.int IntKind.i64 1]) []) (
        br (leI 0 p9.4) (
          br (notB (eqI p9.5 0)) (
            br (eqI p9.5 1) (
              need (andB (leI 0 p9.4) (ltI p9.4 (Int.ofNat l7.length))) (
              need (okRow (windowV l7) (0 + p9.4.toNat) 8) (
              ∃ b10 : Bool, ∃ s11 : List UInt8, ∃ xs12 : List (List V), ((partAt (windowV l7) (0 + p9.4.toNat) 2 3 : Option (List V)) = some [V.bool b10, V.str s11, V.lst xs12]) ∧ (
              ∃ l13 : List (List UInt8), ((xs12 : List (List V)) = strV l13) ∧ (
              ((rightL (Line.mk b10 s11 l13) : Bool) = true) ∧ (
              br ((readF (Line.mk b10 s11 l13) (minI cnt 65536)).snd.2) (
                need (andB (leI 0 p9.4) (ltI p9.4 (Int.ofNat l7.length))) (
                need (okRow (windowV l7) (0 + p9.4.toNat) 8) (
                ∃ b14 : Bool, ((partAt (windowV l7) (0 + p9.4.toNat) 7 1 : Option (List V)) = some [V.bool b14]) ∧ (
                K (V.tup [V.agg [V.int IntKind.i64 n, V.int IntKind.i64 f, V.lst (List.take l7.length (List.drop 0 (windowV l7)))], V.str [], V.bool (notB b14), V.int IntKind.i64 0]) [])))) (
                need (andB (leI 0 p9.4) (ltI p9.4 (Int.ofNat l7.length))) (
                need (okRow (windowV l7) (0 + p9.4.toNat) 8) (
                ∃ xs14 : List (List V), ((putAt (windowV l7) (0 + p9.4.toNat) 2 [V.bool (readF (Line.mk b10 s11 l13) (minI cnt 65536)).fst.1, V.str (readF (Line.mk b10 s11 l13) (minI cnt 65536)).fst.2, V.lst (strV (readF (Line.mk b10 s11 l13) (minI cnt 65536)).fst.3)] : Option (List (List V))) = some xs14) ∧ (
                K (V.tup [V.agg [V.int IntKind.i64 n, V.int IntKind.i64 f, V.lst (List.take l7.length (List.drop 0 xs14))], V.str (readF (Line.mk b10 s11 l13) (minI cnt 65536)).snd.1, V.bool false, V.int IntKind.i64 0]) [])))))))))) (re_vcw_1 n f xs id off cnt K p9 l7)) (re_vcw_1 n f xs id off cnt K p9 l7)) (re_vcw_1 n f xs id off cnt K p9 l7)))))) ∧ (
  ((fileF l8 id : Option Place) = none) → (
  K (V.tup [V.agg [V.int IntKind.i64 n, V.int IntKind.i64 f, V.lst (List.take l7.length (List.drop 0 (windowV l7)))], V.str [], V.bool false, V.int IntKind.i64 8]) [])))))))) := by kernel_rfl

theorem dd_vc (n f : Int) (l : List Window) (j : Nat) (I : ddC → ddX → ddX → Nat → Prop) (K : V → List Bk → Prop) : vcF Tryz.prog cfgN (ctOf [(45, delCon)]) (lpOf [(9, ddL I)]) 78 [.agg [.int .i64 n, .int .i64 f, .ref 0 0 l.length l.length], .int .i64 (Int.ofNat j)] [⟨true, false, true, windowV l, 0⟩] K = (
  need (andB true (ltI (Int.ofNat j) (Int.ofNat l.length))) (
  need (okRow (windowV l) (0 + (Int.ofNat j).toNat) 8) (
  ∃ n6 : Int, ((partAt (windowV l) (0 + (Int.ofNat j).toNat) 0 1 : Option (List V)) = some [V.int IntKind.i64 n6]) ∧ (
  need (andB true (ltI (Int.ofNat j) (Int.ofNat l.length))) (
  need (okRow (windowV l) (0 + (Int.ofNat j).toNat) 8) (
  ∃ n7 : Int, ((partAt (windowV l) (0 + (Int.ofNat j).toNat) 6 1 : Option (List V)) = some [V.int IntKind.i64 n7]) ∧ (
  br (ltI 0 n7) (
    need (andB true (ltI (Int.ofNat j) (Int.ofNat l.length))) (
    need (okRow (windowV l) (0 + (Int.ofNat j).toNat) 8) (
    ∃ xs8 : List (List V), ((putAt (windowV l) (0 + (Int.ofNat j).toNat) 7 [V.bool true] : Option (List (List V))) = some xs8) ∧ (
    br (notB (eqI f n6)) (
      K (V.agg [V.int IntKind.i64 n, V.int IntKind.i64 f, V.ref 0 0 l.length l.length]) [Bk.mk true false true xs8 0]) (
      (∃ m9 : Nat, (((m9 : Nat) < 18446744073709551616)) ∧ (
      I (ddC.mk n 0 0 l.length l.length l.length l.length (Int.ofNat l.length) xs8) (ddX.mk 0 0) (ddX.mk 0 0) m9)) ∧ (
      ∀ x9 : (ddL I).X, ∀ m10 : Nat, (I (ddC.mk n 0 0 l.length l.length l.length l.length (Int.ofNat l.length) xs8) (ddX.mk 0 0) x9 m10) → (
      br (ltI x9.2 (Int.ofNat l.length)) (
        need (andB (leI 0 x9.2) (ltI x9.2 (Int.ofNat l.length))) (
        need (okRow xs8 (0 + x9.2.toNat) 8) (
        ∃ n11 : Int, ∃ s12 : List UInt8, ∃ b13 : Bool, ∃ s14 : List UInt8, ∃ xs15 : List (List V), ∃ s16 : List UInt8, ∃ n17 : Int, ∃ b18 : Bool, ((partAt xs8 (0 + x9.2.toNat) 0 8 : Option (List V)) = some [V.int IntKind.i64 n11, V.str s12, V.bool b13, V.str s14, V.lst xs15, V.str s16, V.int IntKind.i64 n17, V.bool b18]) ∧ (
        br (notB b18) (
          ((ddC.mk n (Int.ofNat 0) (Int.ofNat 0) l.length l.length l.length l.length (Int.ofNat l.length) xs8 : (ddL I).C) = ddC.mk n 0 0 l.length l.length l.length l.length (Int.ofNat l.length) xs8) ∧ (
          ∃ m'19 : Nat, (((m'19 : Nat) < m10)) ∧ (
          I (ddC.mk n 0 0 l.length l.length l.length l.length (Int.ofNat l.length) xs8) (ddX.mk 0 0) (ddX.mk n11 (addI IntKind.i64 x9.2 1)) m'19))) (
          ((ddC.mk n (Int.ofNat 0) (Int.ofNat 0) l.length l.length l.length l.length (Int.ofNat l.length) xs8 : (ddL I).C) = ddC.mk n 0 0 l.length l.length l.length l.length (Int.ofNat l.length) xs8) ∧ (
          ∃ m'19 : Nat, (((m'19 : Nat) < m10)) ∧ (
          I (ddC.mk n 0 0 l.length l.length l.length l.length (Int.ofNat l.length) xs8) (ddX.mk 0 0) (ddX.mk x9.1 (addI IntKind.i64 x9.2 1)) m'19))))))) (
        K (V.agg [V.int IntKind.i64 n, V.int IntKind.i64 x9.1, V.ref 0 0 l.length l.length]) [Bk.mk true false true xs8 0])))))))) (
    ∃ l8 : List Window, ∃ k9 : Nat, ((windowV l : List (List V)) = windowV l8) ∧ (
    ((l.length : Nat) = l8.length) ∧ (
    ((l.length : Nat) = l8.length) ∧ (
    ((Int.ofNat j : Int) = Int.ofNat k9) ∧ (
    ((addI IntKind.i64 (Int.ofNat j) 1 : Int) = Int.ofNat k9 + 1) ∧ (
    (((k9 : Nat) < l8.length)) ∧ (
    (((l8.length : Nat) ≤ 100000)) ∧ (
    ∀ ys10 : List (List V), br (notB (eqI f n6)) (
      K (V.agg [V.int IntKind.i64 n, V.int IntKind.i64 f, V.ref 0 0 (l8.length - 1) l8.length]) [Bk.mk true false true (windowV (l8.eraseIdx k9) ++ ys10) 0]) (
      (∃ m11 : Nat, (((m11 : Nat) < 18446744073709551616)) ∧ (
      I (ddC.mk n 0 0 (l8.length - 1) l8.length (l8.length - 1) l8.length (Int.ofNat (l8.length - 1)) (windowV (l8.eraseIdx k9) ++ ys10)) (ddX.mk 0 0) (ddX.mk 0 0) m11)) ∧ (
      ∀ x11 : (ddL I).X, ∀ m12 : Nat, (I (ddC.mk n 0 0 (l8.length - 1) l8.length (l8.length - 1) l8.length (Int.ofNat (l8.length - 1)) (windowV (l8.eraseIdx k9) ++ ys10)) (ddX.mk 0 0) x11 m12) → (
      br (ltI x11.2 (Int.ofNat (l8.length - 1))) (
        need (andB (leI 0 x11.2) (ltI x11.2 (Int.ofNat (l8.length - 1)))) (
        need (okRow (windowV (l8.eraseIdx k9) ++ ys10) (0 + x11.2.toNat) 8) (
        ∃ n13 : Int, ∃ s14 : List UInt8, ∃ b15 : Bool, ∃ s16 : List UInt8, ∃ xs17 : List (List V), ∃ s18 : List UInt8, ∃ n19 : Int, ∃ b20 : Bool, ((partAt (windowV (l8.eraseIdx k9) ++ ys10) (0 + x11.2.toNat) 0 8 : Option (List V)) = some [V.int IntKind.i64 n13, V.str s14, V.bool b15, V.str s16, V.lst xs17, V.str s18, V.int IntKind.i64 n19, V.bool b20]) ∧ (
        br (notB b20) (
          ((ddC.mk n (Int.ofNat 0) (Int.ofNat 0) (l8.length - 1) l8.length (l8.length - 1) l8.length (Int.ofNat (l8.length - 1)) (windowV (l8.eraseIdx k9) ++ ys10) : (ddL I).C) = ddC.mk n 0 0 (l8.length - 1) l8.length (l8.length - 1) l8.length (Int.ofNat (l8.length - 1)) (windowV (l8.eraseIdx k9) ++ ys10)) ∧ (
          ∃ m'21 : Nat, (((m'21 : Nat) < m12)) ∧ (
          I (ddC.mk n 0 0 (l8.length - 1) l8.length (l8.length - 1) l8.length (Int.ofNat (l8.length - 1)) (windowV (l8.eraseIdx k9) ++ ys10)) (ddX.mk 0 0) (ddX.mk n13 (addI IntKind.i64 x11.2 1)) m'21))) (
          ((ddC.mk n (Int.ofNat 0) (Int.ofNat 0) (l8.length - 1) l8.length (l8.length - 1) l8.length (Int.ofNat (l8.length - 1)) (windowV (l8.eraseIdx k9) ++ ys10) : (ddL I).C) = ddC.mk n 0 0 (l8.length - 1) l8.length (l8.length - 1) l8.length (Int.ofNat (l8.length - 1)) (windowV (l8.eraseIdx k9) ++ ys10)) ∧ (
          ∃ m'21 : Nat, (((m'21 : Nat) < m12)) ∧ (
          I (ddC.mk n 0 0 (l8.length - 1) l8.length (l8.length - 1) l8.length (Int.ofNat (l8.length - 1)) (windowV (l8.eraseIdx k9) ++ ys10)) (ddX.mk 0 0) (ddX.mk x11.1 (addI IntKind.i64 x11.2 1)) m'21))))))) (
        K (V.agg [V.int IntKind.i64 n, V.int IntKind.i64 x11.1, V.ref 0 0 (l8.length - 1) l8.length]) [Bk.mk true false true (windowV (l8.eraseIdx k9) ++ ys10) 0]))))))))))))))))))) := by kernel_rfl

def co_vcw_3 (n f : Int) (l : List Window) (a : Int) (nm : List UInt8) (b w d : Int) (s : List UInt8) (K : V → List Bk → Prop) : Prop :=
  (
              br (notB (eqI d 2)) (
                br (eqS (cmdF s) [100, 101, 108, 101, 116, 101]) (
                  ∃ l10 : List Window, ∃ j11 : Nat, ((windowV l : List (List V)) = windowV l10) ∧ (
                  ((l.length : Nat) = l10.length) ∧ (
                  ((l.length : Nat) = l10.length) ∧ (
                  ((w : Int) = Int.ofNat j11) ∧ (
                  (((j11 : Nat) < l10.length)) ∧ (
                  (((l10.length : Nat) ≤ 1000)) ∧ (
                  ∀ m12 : Nat, ∀ zs13 : List (List V), K (V.tup [V.agg [V.int IntKind.i64 (deletedF (Windows.mk n f l10) w).1, V.int IntKind.i64 (deletedF (Windows.mk n f l10) w).2, V.ref 0 0 (deletedF (Windows.mk n f l10) w).3.length m12], V.int IntKind.i64 0]) [Bk.mk true false true (windowV (deletedF (Windows.mk n f l10) w).3 ++ zs13) 0]))))))) (
                  K (V.tup [V.agg [V.int IntKind.i64 n, V.int IntKind.i64 f, V.ref 0 0 l.length l.length], V.int IntKind.i64 54]) [Bk.mk true false true (windowV l) 0])) (
                K (V.tup [V.agg [V.int IntKind.i64 n, V.int IntKind.i64 f, V.ref 0 0 l.length l.length], V.int IntKind.i64 54]) [Bk.mk true false true (windowV l) 0]))
def co_vcw_2 (n f : Int) (l : List Window) (a : Int) (nm : List UInt8) (b w d : Int) (s : List UInt8) (K : V → List Bk → Prop) : Prop :=
  (
          br (notB (eqI d 2)) (
            br (eqS (cmdF s) [102, 111, 99, 117, 115]) (
              need (andB (leI 0 w) (ltI w (Int.ofNat l.length))) (
              need (okRow (windowV l) (0 + w.toNat) 8) (
              ∃ n10 : Int, ((partAt (windowV l) (0 + w.toNat) 0 1 : Option (List V)) = some [V.int IntKind.i64 n10]) ∧ (
              K (V.tup [V.agg [V.int IntKind.i64 n, V.int IntKind.i64 n10, V.ref 0 0 l.length l.length], V.int IntKind.i64 0]) [Bk.mk true false true (windowV l) 0])))) (co_vcw_3 n f l a nm b w d s K)) (co_vcw_3 n f l a nm b w d s K))
def co_vcw_1 (n f : Int) (l : List Window) (a : Int) (nm : List UInt8) (b w d : Int) (s : List UInt8) (K : V → List Bk → Prop) : Prop :=
  (
      br (eqI d 2) (
        br (eqS (cmdF s) [114, 97, 119, 111, 102, 102]) (
          need (andB (leI 0 w) (ltI w (Int.ofNat l.length))) (
          need (okRow (windowV l) (0 + w.toNat) 8) (
          ∃ b10 : Bool, ∃ s11 : List UInt8, ∃ xs12 : List (List V), ((partAt (windowV l) (0 + w.toNat) 2 3 : Option (List V)) = some [V.bool b10, V.str s11, V.lst xs12]) ∧ (
          ∃ l13 : List (List UInt8), ((xs12 : List (List V)) = strV l13) ∧ (
          ((rightL (Line.mk b10 s11 l13) : Bool) = true) ∧ (
          need (andB (leI 0 w) (ltI w (Int.ofNat l.length))) (
          need (okRow (windowV l) (0 + w.toNat) 8) (
          ∃ xs14 : List (List V), ((putAt (windowV l) (0 + w.toNat) 2 [V.bool (setRawF (Line.mk b10 s11 l13) false).1, V.str (setRawF (Line.mk b10 s11 l13) false).2, V.lst (strV (setRawF (Line.mk b10 s11 l13) false).3)] : Option (List (List V))) = some xs14) ∧ (
          K (V.tup [V.agg [V.int IntKind.i64 n, V.int IntKind.i64 f, V.ref 0 0 l.length l.length], V.int IntKind.i64 0]) [Bk.mk true false true xs14 0]))))))))) (co_vcw_2 n f l a nm b w d s K)) (co_vcw_2 n f l a nm b w d s K))
theorem co_vcw (n f : Int) (l : List Window) (a : Int) (nm : List UInt8) (b w d : Int) (s : List UInt8) (K : V → List Bk → Prop) : vcF Tryz.prog cfgN (ctOf [(76, cmdCon), (77, setRawCon), (78, deletedCon)]) (lpOf []) 42 [.agg [.int .i64 n, .int .i64 f, .ref 0 0 l.length l.length], .agg [.int .i64 a, .str nm, .int .i64 b, .int .i64 w, .int .i64 d], .str s] [⟨true, false, true, windowV l, 0⟩] K = (
  (((s.length : Nat) ≤ 4611686018427387904)) ∧ (
  br (eqI d 2) (
    br (eqS (cmdF s) [114, 97, 119, 111, 110]) (
      need (andB (leI 0 w) (ltI w (Int.ofNat l.length))) (
      need (okRow (windowV l) (0 + w.toNat) 8) (
      ∃ b10 : Bool, ∃ s11 : List UInt8, ∃ xs12 : List (List V), ((partAt (windowV l) (0 + w.toNat) 2 3 : Option (List V)) = some [V.bool b10, V.str s11, V.lst xs12]) ∧ (
      ∃ l13 : List (List UInt8), ((xs12 : List (List V)) = strV l13) ∧ (
      ((rightL (Line.mk b10 s11 l13) : Bool) = true) ∧ (
      need (andB (leI 0 w) (ltI w (Int.ofNat l.length))) (
      need (okRow (windowV l) (0 + w.toNat) 8) (
      ∃ xs14 : List (List V), ((putAt (windowV l) (0 + w.toNat) 2 [V.bool (setRawF (Line.mk b10 s11 l13) true).1, V.str (setRawF (Line.mk b10 s11 l13) true).2, V.lst (strV (setRawF (Line.mk b10 s11 l13) true).3)] : Option (List (List V))) = some xs14) ∧ (
      K (V.tup [V.agg [V.int IntKind.i64 n, V.int IntKind.i64 f, V.ref 0 0 l.length l.length], V.int IntKind.i64 0]) [Bk.mk true false true xs14 0]))))))))) (co_vcw_1 n f l a nm b w d s K)) (co_vcw_1 n f l a nm b w d s K))) := by kernel_rfl

theorem rf_vc (n f : Int) (xs : List (List V)) (s : List UInt8) (K : V → List Bk → Prop) : vcF Tryz.prog cfgN (ctOf [(32, wcloneCon), (76, cmdCon), (75, numCon), (20, focusCon)]) (lpOf []) 41 [.agg [.int .i64 n, .int .i64 f, .lst xs], .str s] [] K = (
  (((s.length : Nat) ≤ 4611686018427387904)) ∧ (
  ((((cmdF s).length : Nat) ≤ 4611686018427387904)) ∧ (
  (∀ n5 : Int, ((numF (cmdF s) : Option Int) = some n5) → (
  ∃ l6 : List Window, ((xs : List (List V)) = windowV l6) ∧ (
  (smallL l6) ∧ (
  br (notB (eqI (focusF (Windows.mk n f l6) n5).2 0)) (
    K (V.tup [V.agg [V.int IntKind.i64 (focusF (Windows.mk n f l6) n5).fst.1, V.int IntKind.i64 (focusF (Windows.mk n f l6) n5).fst.2, V.lst (windowV (focusF (Windows.mk n f l6) n5).fst.3)], V.int IntKind.i64 0, V.int IntKind.i64 (focusF (Windows.mk n f l6) n5).2]) []) (
    K (V.tup [V.agg [V.int IntKind.i64 (focusF (Windows.mk n f l6) n5).fst.1, V.int IntKind.i64 (focusF (Windows.mk n f l6) n5).fst.2, V.lst (windowV (focusF (Windows.mk n f l6) n5).fst.3)], V.int IntKind.i64 (lenS s), V.int IntKind.i64 0]) []))))) ∧ (
  ((numF (cmdF s) : Option Int) = none) → (
  ∃ l5 : List Window, ((xs : List (List V)) = windowV l5) ∧ (
  (smallL l5) ∧ (
  K (V.tup [V.agg [V.int IntKind.i64 n, V.int IntKind.i64 f, V.lst (List.take l5.length (List.drop 0 (windowV l5)))], V.int IntKind.i64 0, V.int IntKind.i64 5]) []))))))) := by kernel_rfl

theorem wi_vc (n f : Int) (xs : List (List V)) (id : Int) (s : List UInt8) (K : V → List Bk → Prop) : vcF Tryz.prog cfgN (ctOf [(32, wcloneCon), (33, findCon), (34, inlC Tryz.prog cfgN (ctOf []) 34), (41, refocusCon), (39, showCon), (42, controlCon)]) (lpOf []) 17 [.agg [.int .i64 n, .int .i64 f, .lst xs], .int .i64 id, .str s] [] K = (
  ∃ l6 : List Window, ((xs : List (List V)) = windowV l6) ∧ (
  (((l6.length : Nat) ≤ 1000)) ∧ (
  (((id : Int) ≤ 9223372036854775807)) ∧ (
  (∀ p7 : Place, ((fileF l6 id : Option Place) = some p7) → (
  br (leI 2147483648 p7.3) (
    ∃ l8 : List Window, ((xs : List (List V)) = windowV l8) ∧ (
    (smallL l8) ∧ (
    K (V.tup [V.agg [V.int IntKind.i64 n, V.int IntKind.i64 f, V.lst (List.take l8.length (List.drop 0 (windowV l8)))], V.int IntKind.i64 0, V.int IntKind.i64 10]) []))) (
    br (eqI p7.1 2) (
      ∃ l8 : List Window, ((xs : List (List V)) = windowV l8) ∧ (
      (smallL l8) ∧ (
      (((s.length : Nat) ≤ 4611686018427387904)) ∧ (
      K (V.tup [V.agg [V.int IntKind.i64 (refocusF (Windows.mk n f l8) s).fst.1, V.int IntKind.i64 (refocusF (Windows.mk n f l8) s).fst.2, V.lst (windowV (refocusF (Windows.mk n f l8) s).fst.3)], V.int IntKind.i64 (refocusF (Windows.mk n f l8) s).snd.1, V.int IntKind.i64 (refocusF (Windows.mk n f l8) s).snd.2]) [])))) (
      need (andB (leI 0 p7.4) (ltI p7.4 (lenL xs))) (
      need (okRow xs p7.4.toNat 8) (
      ∃ b8 : Bool, ((sub (rowAt xs p7.4) 7 1 : Option (List V)) = some [V.bool b8]) ∧ (
      br (b8) (
        ∃ l9 : List Window, ((xs : List (List V)) = windowV l9) ∧ (
        (smallL l9) ∧ (
        K (V.tup [V.agg [V.int IntKind.i64 n, V.int IntKind.i64 f, V.lst (List.take l9.length (List.drop 0 (windowV l9)))], V.int IntKind.i64 0, V.int IntKind.i64 55]) []))) (
        ∃ l9 : List Window, ((xs : List (List V)) = windowV l9) ∧ (
        (smallL l9) ∧ (
        br (eqI p7.5 1) (
          need (andB (leI 0 p7.4) (ltI p7.4 (Int.ofNat l9.length))) (
          need (okRow (windowV l9) (0 + p7.4.toNat) 8) (
          ∃ n10 : Int, ∃ s11 : List UInt8, ∃ b12 : Bool, ∃ s13 : List UInt8, ∃ xs14 : List (List V), ∃ s15 : List UInt8, ∃ n16 : Int, ∃ b17 : Bool, ((partAt (windowV l9) (0 + p7.4.toNat) 0 8 : Option (List V)) = some [V.int IntKind.i64 n10, V.str s11, V.bool b12, V.str s13, V.lst xs14, V.str s15, V.int IntKind.i64 n16, V.bool b17]) ∧ (
          (((s15.length + s.length : Nat) ≤ 4611686018427387904)) ∧ (
          need (andB (leI 0 p7.4) (ltI p7.4 (Int.ofNat l9.length))) (
          need (okRow (windowV l9) (0 + p7.4.toNat) 8) (
          ∃ xs18 : List (List V), ((putAt (windowV l9) (0 + p7.4.toNat) 0 [V.int IntKind.i64 n10, V.str s11, V.bool b12, V.str s13, V.lst xs14, V.str (showT s15 s), V.int IntKind.i64 n16, V.bool b17] : Option (List (List V))) = some xs18) ∧ (
          K (V.tup [V.agg [V.int IntKind.i64 n, V.int IntKind.i64 f, V.lst (List.take l9.length (List.drop 0 xs18))], V.int IntKind.i64 (lenS s), V.int IntKind.i64 0]) [])))))))) (
          br (eqI p7.5 3) (
            br (ltI 64 (lenS s)) (
              K (V.tup [V.agg [V.int IntKind.i64 n, V.int IntKind.i64 f, V.lst (List.take l9.length (List.drop 0 (windowV l9)))], V.int IntKind.i64 0, V.int IntKind.i64 4]) []) (
              need (andB (leI 0 p7.4) (ltI p7.4 (Int.ofNat l9.length))) (
              need (okRow (windowV l9) (0 + p7.4.toNat) 8) (
              ∃ xs10 : List (List V), ((putAt (windowV l9) (0 + p7.4.toNat) 1 [V.str s] : Option (List (List V))) = some xs10) ∧ (
              K (V.tup [V.agg [V.int IntKind.i64 n, V.int IntKind.i64 f, V.lst (List.take l9.length (List.drop 0 xs10))], V.int IntKind.i64 (lenS s), V.int IntKind.i64 0]) []))))) (
            br (eqI p7.5 4) (
              K (V.tup [V.agg [V.int IntKind.i64 n, V.int IntKind.i64 f, V.lst (List.take l9.length (List.drop 0 (windowV l9)))], V.int IntKind.i64 0, V.int IntKind.i64 11]) []) (
              ∃ l10 : List Window, ∃ j11 : Nat, ((windowV l9 : List (List V)) = windowV l10) ∧ (
              ((l9.length : Nat) = l10.length) ∧ (
              ((l9.length : Nat) = l10.length) ∧ (
              ((p7.4 : Int) = Int.ofNat j11) ∧ (
              (((j11 : Nat) < l10.length)) ∧ (
              ((rightW (Windows.mk n f l10) : Bool) = true) ∧ (
              (((s.length : Nat) ≤ 4611686018427387904)) ∧ (
              ∀ m12 : Nat, ∀ zs13 : List (List V), br (notB (eqI (controlF (Windows.mk n f l10) p7.window p7.file (cmdF s)).2 0)) (
                ∃ l14 : List Window, ((xs : List (List V)) = windowV l14) ∧ (
                (smallL l14) ∧ (
                K (V.tup [V.agg [V.int IntKind.i64 n, V.int IntKind.i64 f, V.lst (List.take l14.length (List.drop 0 (windowV l14)))], V.int IntKind.i64 0, V.int IntKind.i64 (controlF (Windows.mk n f l10) p7.window p7.file (cmdF s)).2]) []))) (
                K (V.tup [V.agg [V.int IntKind.i64 (controlF (Windows.mk n f l10) p7.window p7.file (cmdF s)).fst.1, V.int IntKind.i64 (controlF (Windows.mk n f l10) p7.window p7.file (cmdF s)).fst.2, V.lst (List.take (controlF (Windows.mk n f l10) p7.window p7.file (cmdF s)).fst.3.length (List.drop 0 (windowV (controlF (Windows.mk n f l10) p7.window p7.file (cmdF s)).fst.3 ++ zs13)))], V.int IntKind.i64 (lenS s), V.int IntKind.i64 0]) []))))))))))))))))))))) ∧ (
  ((fileF l6 id : Option Place) = none) → (
  ∃ l7 : List Window, ((xs : List (List V)) = windowV l7) ∧ (
  (smallL l7) ∧ (
  K (V.tup [V.agg [V.int IntKind.i64 n, V.int IntKind.i64 f, V.lst (List.take l7.length (List.drop 0 (windowV l7)))], V.int IntKind.i64 0, V.int IntKind.i64 8]) [])))))))) := by kernel_rfl

theorem cs_vc (n f : Int) (xs : List (List V)) (id m : Int) (K : V → List Bk → Prop) : vcF Tryz.prog cfgN (ctOf [(32, wcloneCon), (33, findCon), (35, inlC Tryz.prog cfgN (ctOf []) 35), (45, delCon)]) (lpOf []) 19 [.agg [.int .i64 n, .int .i64 f, .lst xs], .int .i64 id, .int .i64 m] [] K = (
  ∃ l6 : List Window, ((xs : List (List V)) = windowV l6) ∧ (
  (smallL l6) ∧ (
  ∃ l7 : List Window, ((xs : List (List V)) = windowV l7) ∧ (
  (((l7.length : Nat) ≤ 1000)) ∧ (
  (((id : Int) ≤ 9223372036854775807)) ∧ (
  (∀ p8 : Place, ((fileF l7 id : Option Place) = some p8) → (
  br (leI 0 p8.4) (
    br (notB (notB (eqI p8.5 0))) (
      K (V.agg [V.int IntKind.i64 n, V.int IntKind.i64 f, V.lst (List.take l6.length (List.drop 0 (windowV l6)))]) []) (
      need (andB (leI 0 p8.4) (ltI p8.4 (Int.ofNat l6.length))) (
      need (okRow (windowV l6) (0 + p8.4.toNat) 8) (
      ∃ n9 : Int, ((partAt (windowV l6) (0 + p8.4.toNat) 6 1 : Option (List V)) = some [V.int IntKind.i64 n9]) ∧ (
      ∃ xs10 : List (List V), ((putAt (windowV l6) (0 + p8.4.toNat) 6 [V.int IntKind.i64 (maxI (subI IntKind.i64 n9 1) 0)] : Option (List (List V))) = some xs10) ∧ (
      ∃ n11 : Int, ((partAt xs10 (0 + p8.4.toNat) 6 1 : Option (List V)) = some [V.int IntKind.i64 n11]) ∧ (
      br (eqI n11 0) (
        ∃ b12 : Bool, ((partAt xs10 (0 + p8.4.toNat) 7 1 : Option (List V)) = some [V.bool b12]) ∧ (
        br (b12) (
          ∃ l13 : List Window, ∃ k14 : Nat, ((xs10 : List (List V)) = windowV l13) ∧ (
          ((l6.length : Nat) = l13.length) ∧ (
          ((l6.length : Nat) = l13.length) ∧ (
          ((p8.4 : Int) = Int.ofNat k14) ∧ (
          ((addI IntKind.i64 p8.4 1 : Int) = Int.ofNat k14 + 1) ∧ (
          (((k14 : Nat) < l13.length)) ∧ (
          (((l13.length : Nat) ≤ 100000)) ∧ (
          ∀ ys15 : List (List V), K (V.agg [V.int IntKind.i64 n, V.int IntKind.i64 f, V.lst (List.take (l13.length - 1) (List.drop 0 (windowV (l13.eraseIdx k14) ++ ys15)))]) [])))))))) (
          K (V.agg [V.int IntKind.i64 n, V.int IntKind.i64 f, V.lst (List.take l6.length (List.drop 0 xs10))]) []))) (
        K (V.agg [V.int IntKind.i64 n, V.int IntKind.i64 f, V.lst (List.take l6.length (List.drop 0 xs10))]) [])))))))) (
    K (V.agg [V.int IntKind.i64 n, V.int IntKind.i64 f, V.lst (List.take l6.length (List.drop 0 (windowV l6)))]) []))) ∧ (
  ((fileF l7 id : Option Place) = none) → (
  K (V.agg [V.int IntKind.i64 n, V.int IntKind.i64 f, V.lst (List.take l6.length (List.drop 0 (windowV l6)))]) [])))))))) := by kernel_rfl

end Go.Proofs.YtdbbpibfejchfaaGreatDoor
