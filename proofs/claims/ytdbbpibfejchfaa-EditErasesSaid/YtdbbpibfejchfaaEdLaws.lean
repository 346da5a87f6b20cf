/- Line editors: conditions of the statements. -/
import Derived.Test.YtdbbpibfejchfaaEdWalk
import Derived.Test.YtdbbpibfejchfaaEdRef
import Derived.Test.YtdbbpibfejchfaaEdBase
namespace Go.Proofs.Ytdbbpibfejchfaa
open Go.RowKit
set_option maxRecDepth 100000
set_option linter.unusedVariables false
set_option linter.unusedSimpArgs false
def okCon : Con := fun vs bs K => match vs, bs with
  | [], [] => K (.bool true) []
  | _, _ => False

def smT (t : List UInt8) (l : List (List UInt8)) (b : Bool) : Prop := b = true → t.length ≤ 2000 ∧ l.length ≤ 1100

def lenT (l : List (List UInt8)) : Prop := ∀ s ∈ l, s.length ≤ 140737488351232

def smCon : Con := fun vs bs K => match vs, bs with
  | [.agg [.bool r, .str t, .lst xs]], [] => ∃ l : List (List UInt8), xs = strV l ∧ lenT l ∧ ∀ b : Bool, smT t l b → K (.bool b) []
  | _, _ => False

def sameCon : Con := fun vs bs K => match vs, bs with
  | [.agg [.bool r, .str t, .lst xs], .agg [.bool r2, .str t2, .lst ys]], [] => ∃ l : List (List UInt8), xs = strV l ∧ ys = strV l ∧ l.length ≤ 100000 ∧ r = r2 ∧ t = t2 ∧ K (.bool true) []
  | _, _ => False

def tokCon : Con := fun vs bs K => match vs, bs with
  | [.str t], [] => t.length ≤ 100000 ∧ K (.bool (textOk t)) []
  | _, _ => False

structure smC where
  r : Bool
  t : List UInt8
  xs : List (List V)
  cnt : Int
structure smX where
  n : Int
  i : Int
def smSt (c : smC) (x : smX) : St := ⟨[(1, .ptr 0 0 0), (3, .int .i64 x.n), (17, .int .i64 c.cnt), (18, .int .i64 x.i)], [(0, ⟨true, true, true, [[.bool c.r, .str c.t, .lst c.xs]], 0⟩)]⟩
set_option maxHeartbeats 4000000 in
def smUn (s : St) : Option (smC × smX) :=
  match s with
  | ⟨[(q0, .ptr q1 q2 q3), (q4, .int .i64 n), (q5, .int .i64 cnt), (q6, .int .i64 i)], [(q7, ⟨true, true, true, [[.bool r, .str t, .lst xs]], q8⟩)]⟩ => bif Nat.beq q0 1 && Nat.beq q1 0 && Nat.beq q2 0 && Nat.beq q3 0 && Nat.beq q4 3 && Nat.beq q5 17 && Nat.beq q6 18 && Nat.beq q7 0 && Nat.beq q8 0 then some (⟨r, t, xs, cnt⟩, ⟨n, i⟩) else none
  | _ => none
set_option maxHeartbeats 4000000 in
def smL (inv : smC → smX → smX → Nat → Prop) : LoopS where
  C := smC
  X := smX
  st := smSt
  un := smUn
  ok := by
    intro s c x h
    unfold smUn at h
    split at h
    · simp only [Bool.cond_eq_ite] at h
      split at h
      · rename_i hg
        simp only [Bool.and_eq_true, Nat.beq_eq] at hg
        obtain ⟨⟨⟨⟨⟨⟨⟨⟨rfl, rfl⟩, rfl⟩, rfl⟩, rfl⟩, rfl⟩, rfl⟩, rfl⟩, rfl⟩ := hg
        cases h
        rfl
      · cases h
    · cases h
  inv := inv

structure plC where
  t : List UInt8
structure plX where
  i : Int
def plSt (c : plC) (x : plX) : St := ⟨[(0, .str c.t), (3, .int .i64 x.i)], []⟩
set_option maxHeartbeats 4000000 in
def plUn (s : St) : Option (plC × plX) :=
  match s with
  | ⟨[(q0, .str t), (q1, .int .i64 i)], []⟩ => bif Nat.beq q0 0 && Nat.beq q1 3 then some (⟨t⟩, ⟨i⟩) else none
  | _ => none
set_option maxHeartbeats 4000000 in
def plL (inv : plC → plX → plX → Nat → Prop) : LoopS where
  C := plC
  X := plX
  st := plSt
  un := plUn
  ok := by
    intro s c x h
    unfold plUn at h
    split at h
    · simp only [Bool.cond_eq_ite] at h
      split at h
      · rename_i hg
        simp only [Bool.and_eq_true, Nat.beq_eq] at hg
        obtain ⟨rfl, rfl⟩ := hg
        cases h
        rfl
      · cases h
    · cases h
  inv := inv

structure saC where
  r : Bool
  t : List UInt8
  xs : List (List V)
  r2 : Bool
  t2 : List UInt8
  ys : List (List V)
structure saX where
  i : Int
def saSt (c : saC) (x : saX) : St := ⟨[(2, .ptr 0 0 0), (3, .ptr 1 0 0), (5, .int .i64 x.i)], [(0, ⟨true, true, true, [[.bool c.r, .str c.t, .lst c.xs]], 0⟩), (1, ⟨true, true, true, [[.bool c.r2, .str c.t2, .lst c.ys]], 0⟩)]⟩
set_option maxHeartbeats 4000000 in
def saUn (s : St) : Option (saC × saX) :=
  match s with
  | ⟨[(q0, .ptr q1 q2 q3), (q4, .ptr q5 q6 q7), (q8, .int .i64 i)], [(q9, ⟨true, true, true, [[.bool r, .str t, .lst xs]], q10⟩), (q11, ⟨true, true, true, [[.bool r2, .str t2, .lst ys]], q12⟩)]⟩ => bif Nat.beq q0 2 && Nat.beq q1 0 && Nat.beq q2 0 && Nat.beq q3 0 && Nat.beq q4 3 && Nat.beq q5 1 && Nat.beq q6 0 && Nat.beq q7 0 && Nat.beq q8 5 && Nat.beq q9 0 && Nat.beq q10 0 && Nat.beq q11 1 && Nat.beq q12 0 then some (⟨r, t, xs, r2, t2, ys⟩, ⟨i⟩) else none
  | _ => none
set_option maxHeartbeats 4000000 in
def saL (inv : saC → saX → saX → Nat → Prop) : LoopS where
  C := saC
  X := saX
  st := saSt
  un := saUn
  ok := by
    intro s c x h
    unfold saUn at h
    split at h
    · simp only [Bool.cond_eq_ite] at h
      split at h
      · rename_i hg
        simp only [Bool.and_eq_true, Nat.beq_eq] at hg
        obtain ⟨⟨⟨⟨⟨⟨⟨⟨⟨⟨⟨⟨rfl, rfl⟩, rfl⟩, rfl⟩, rfl⟩, rfl⟩, rfl⟩, rfl⟩, rfl⟩, rfl⟩, rfl⟩, rfl⟩, rfl⟩ := hg
        cases h
        rfl
      · cases h
    · cases h
  inv := inv

structure eeC where
  cnt : Int
  r : Bool
  t : List UInt8
  xs : List (List V)
structure eeX where
  r2 : Bool
  t2 : List UInt8
  ys : List (List V)
  i : Int
def eeSt (c : eeC) (x : eeX) : St := ⟨[(2, .ptr 0 0 0), (5, .ptr 1 0 0), (53, .int .i64 c.cnt), (54, .int .i64 x.i)], [(0, ⟨true, true, true, [[.bool c.r, .str c.t, .lst c.xs]], 0⟩), (1, ⟨true, true, true, [[.bool x.r2, .str x.t2, .lst x.ys]], 0⟩)]⟩
set_option maxHeartbeats 4000000 in
def eeUn (s : St) : Option (eeC × eeX) :=
  match s with
  | ⟨[(q0, .ptr q1 q2 q3), (q4, .ptr q5 q6 q7), (q8, .int .i64 cnt), (q9, .int .i64 i)], [(q10, ⟨true, true, true, [[.bool r, .str t, .lst xs]], q11⟩), (q12, ⟨true, true, true, [[.bool r2, .str t2, .lst ys]], q13⟩)]⟩ => bif Nat.beq q0 2 && Nat.beq q1 0 && Nat.beq q2 0 && Nat.beq q3 0 && Nat.beq q4 5 && Nat.beq q5 1 && Nat.beq q6 0 && Nat.beq q7 0 && Nat.beq q8 53 && Nat.beq q9 54 && Nat.beq q10 0 && Nat.beq q11 0 && Nat.beq q12 1 && Nat.beq q13 0 then some (⟨cnt, r, t, xs⟩, ⟨r2, t2, ys, i⟩) else none
  | _ => none
set_option maxHeartbeats 4000000 in
def eeL (inv : eeC → eeX → eeX → Nat → Prop) : LoopS where
  C := eeC
  X := eeX
  st := eeSt
  un := eeUn
  ok := by
    intro s c x h
    unfold eeUn at h
    split at h
    · simp only [Bool.cond_eq_ite] at h
      split at h
      · rename_i hg
        simp only [Bool.and_eq_true, Nat.beq_eq] at hg
        obtain ⟨⟨⟨⟨⟨⟨⟨⟨⟨⟨⟨⟨⟨rfl, rfl⟩, rfl⟩, rfl⟩, rfl⟩, rfl⟩, rfl⟩, rfl⟩, rfl⟩, rfl⟩, rfl⟩, rfl⟩, rfl⟩, rfl⟩ := hg
        cases h
        rfl
      · cases h
    · cases h
  inv := inv

theorem pty_vc (r : Bool) (t : List UInt8) (xs : List (List V)) (c : Int) (K : V → List Bk → Prop) : vcF Try.prog cfgN (ctOf [(18, ownCon), (20, typedCon)]) (lpOf []) 15 [.agg [.bool r, .str t, .lst xs], .int .u8 c] [] K = (
  ∃ l5 : List (List UInt8), ((xs : List (List V)) = strV l5) ∧ (
  (((l5.length : Nat) ≤ 100000)) ∧ (
  ∃ l6 : List (List UInt8), ((strV l5 : List (List V)) = strV l6) ∧ (
  ((l5.length : Nat) = l6.length) ∧ (
  ((l5.length : Nat) = l6.length) ∧ (
  ((rightL (Line.mk r t l6) : Bool) = true) ∧ (
  (((0 : Int) ≤ c)) ∧ (
  (((c : Int) ≤ 255)) ∧ (
  (K (V.tup [V.agg [V.bool (typeF (Line.mk r t l6) c).fst.1, V.str (typeF (Line.mk r t l6) c).fst.2, V.lst (List.take (typeF (Line.mk r t l6) c).fst.3.length (List.drop 0 (strV (typeF (Line.mk r t l6) c).fst.3)))], V.str (typeF (Line.mk r t l6) c).2]) []) ∧ (
  K (V.tup [V.agg [V.bool (typeF (Line.mk r t l6) c).fst.1, V.str (typeF (Line.mk r t l6) c).fst.2, V.lst (List.take (typeF (Line.mk r t l6) c).fst.3.length (List.drop 0 (strV (typeF (Line.mk r t l6) c).fst.3)))], V.str (typeF (Line.mk r t l6) c).2]) [])))))))))) := by kernel_rfl

theorem sm_vc (r : Bool) (t : List UInt8) (xs : List (List V)) (I : smC → smX → smX → Nat → Prop) (K : V → List Bk → Prop) : vcF Try.prog cfgN (ctOf []) (lpOf [(5, smL I)]) 6 [.agg [.bool r, .str t, .lst xs]] [] K = (
  br (ltI 2000 (lenS t)) (
    K (V.bool false) []) (
    br (ltI 1100 (lenL xs)) (
      K (V.bool false) []) (
      (∃ m5 : Nat, (((m5 : Nat) < 18446744073709551616)) ∧ (
      I (smC.mk r t xs (lenL xs)) (smX.mk 0 0) (smX.mk 0 0) m5)) ∧ (
      ∀ x5 : (smL I).X, ∀ m6 : Nat, (I (smC.mk r t xs (lenL xs)) (smX.mk 0 0) x5 m6) → (
      br (ltI x5.2 (lenL xs)) (
        need (andB (leI 0 x5.2) (ltI x5.2 (lenL xs))) (
        need (okRow xs x5.2.toNat 1) (
        ∃ s7 : List UInt8, ((sub (rowAt xs x5.2) 0 1 : Option (List V)) = some [V.str s7]) ∧ (
        br (ltI 50000 (addI IntKind.i64 x5.1 (lenS s7))) (
          K (V.bool false) []) (
          ((smC.mk r t xs (lenL xs) : (smL I).C) = smC.mk r t xs (lenL xs)) ∧ (
          ∃ m'8 : Nat, (((m'8 : Nat) < m6)) ∧ (
          I (smC.mk r t xs (lenL xs)) (smX.mk 0 0) (smX.mk (addI IntKind.i64 x5.1 (lenS s7)) (addI IntKind.i64 x5.2 1)) m'8))))))) (
        K (V.bool true) [])))))) := by kernel_rfl

theorem pl_vc (t : List UInt8) (I : plC → plX → plX → Nat → Prop) (K : V → List Bk → Prop) : vcF Try.prog cfgN (ctOf [(16, prCon)]) (lpOf [(2, plL I)]) 13 [.str t] [] K = (
  (∃ m3 : Nat, (((m3 : Nat) < 18446744073709551616)) ∧ (
  I (plC.mk t) (plX.mk 0) (plX.mk 0) m3)) ∧ (
  ∀ x3 : (plL I).X, ∀ m4 : Nat, (I (plC.mk t) (plX.mk 0) x3 m4) → (
  br (ltI x3.1 (lenS t)) (
    need (andB (leI 0 x3.1) (ltI x3.1 (lenS t))) (
    br (notB (prB (atS t x3.1))) (
      K (V.bool false) []) (
      ((plC.mk t : (plL I).C) = plC.mk t) ∧ (
      ∃ m'5 : Nat, (((m'5 : Nat) < m4)) ∧ (
      I (plC.mk t) (plX.mk 0) (plX.mk (addI IntKind.i64 x3.1 1)) m'5))))) (
    K (V.bool true) [])))) := by kernel_rfl

theorem sa_vc (r : Bool) (t : List UInt8) (xs : List (List V)) (r2 : Bool) (t2 : List UInt8) (ys : List (List V)) (I : saC → saX → saX → Nat → Prop) (K : V → List Bk → Prop) : vcF Try.prog cfgN (ctOf []) (lpOf [(4, saL I)]) 11 [.agg [.bool r, .str t, .lst xs], .agg [.bool r2, .str t2, .lst ys]] [] K = (
  br (notB (eqB r r2)) (
    K (V.bool false) []) (
    br (notB (eqS t t2)) (
      K (V.bool false) []) (
      br (notB (eqI (lenL xs) (lenL ys))) (
        K (V.bool false) []) (
        (∃ m8 : Nat, (((m8 : Nat) < 18446744073709551616)) ∧ (
        I (saC.mk r t xs r2 t2 ys) (saX.mk 0) (saX.mk 0) m8)) ∧ (
        ∀ x8 : (saL I).X, ∀ m9 : Nat, (I (saC.mk r t xs r2 t2 ys) (saX.mk 0) x8 m9) → (
        br (ltI x8.1 (lenL xs)) (
          need (andB (leI 0 x8.1) (ltI x8.1 (lenL xs))) (
          need (okRow xs x8.1.toNat 1) (
          ∃ s10 : List UInt8, ((sub (rowAt xs x8.1) 0 1 : Option (List V)) = some [V.str s10]) ∧ (
          need (andB (leI 0 x8.1) (ltI x8.1 (lenL ys))) (
          need (okRow ys x8.1.toNat 1) (
          ∃ s11 : List UInt8, ((sub (rowAt ys x8.1) 0 1 : Option (List V)) = some [V.str s11]) ∧ (
          br (notB (eqS s10 s11)) (
            K (V.bool false) []) (
            ((saC.mk r t xs r2 t2 ys : (saL I).C) = saC.mk r t xs r2 t2 ys) ∧ (
            ∃ m'12 : Nat, (((m'12 : Nat) < m9)) ∧ (
            I (saC.mk r t xs r2 t2 ys) (saX.mk 0) (saX.mk (addI IntKind.i64 x8.1 1)) m'12)))))))))) (
          K (V.bool true) []))))))) := by kernel_rfl

theorem lf_vc (r : Bool) (t : List UInt8) (xs : List (List V)) (s : List UInt8) (at_ : Int) (K : V → List Bk → Prop) : vcF Try.prog cfgN (ctOf [(6, smCon), (8, okCon), (7, rgCon), (12, rgCon), (9, feedCon), (10, feedCon), (11, sameCon)]) (lpOf []) 3 [.agg [.bool r, .str t, .lst xs], .str s, .int .u8 at_] [] K = (
  ∃ l6 : List (List UInt8), ((xs : List (List V)) = strV l6) ∧ (
  (lenT l6) ∧ (
  ∀ b7 : Bool, (smT t l6 b7) → (
  br (notB b7) (
    K (V.bool true) []) (
    br (ltI 200 (lenS s)) (
      K (V.bool true) []) (
      ∃ l8 : List (List UInt8), ((xs : List (List V)) = strV l8) ∧ (
      (((l8.length : Nat) ≤ 100000)) ∧ (
      (((t.length : Nat) ≤ 100000)) ∧ (
      br (notB (rightL (Line.mk r t l8))) (
        K (V.bool true) []) (
        ∃ l9 : List (List UInt8), ((xs : List (List V)) = strV l9) ∧ (
        ((rightL (Line.mk r t l9) : Bool) = true) ∧ (
        (((s.length : Nat) ≤ 100000)) ∧ (
        ∃ l10 : List (List UInt8), ((xs : List (List V)) = strV l10) ∧ (
        ((rightL (Line.mk r t l10) : Bool) = true) ∧ (
        (((s.length : Nat) ≤ 100000)) ∧ (
        need (andB (leI 0 (minI (wrapI IntKind.i64 at_) (lenS s))) (leI (minI (wrapI IntKind.i64 at_) (lenS s)) (lenS s))) (
        ∃ l11 : List (List UInt8), ((xs : List (List V)) = strV l11) ∧ (
        ((rightL (Line.mk r t l11) : Bool) = true) ∧ (
        ((((cutS s 0 (minI (wrapI IntKind.i64 at_) (lenS s))).length : Nat) ≤ 100000)) ∧ (
        need (andB (leI 0 (minI (wrapI IntKind.i64 at_) (lenS s))) (leI (minI (wrapI IntKind.i64 at_) (lenS s)) (lenS s))) (
        ∃ l12 : List (List UInt8), ((strV (feedF (Line.mk r t l11) (cutS s 0 (minI (wrapI IntKind.i64 at_) (lenS s)))).fst.3 : List (List V)) = strV l12) ∧ (
        ((rightL (Line.mk (feedF (Line.mk r t l11) (cutS s 0 (minI (wrapI IntKind.i64 at_) (lenS s)))).fst.1 (feedF (Line.mk r t l11) (cutS s 0 (minI (wrapI IntKind.i64 at_) (lenS s)))).fst.2 l12) : Bool) = true) ∧ (
        ((((cutS s (minI (wrapI IntKind.i64 at_) (lenS s)) (lenS s)).length : Nat) ≤ 100000)) ∧ (
        ∃ l13 : List (List UInt8), ((strV (feedF (Line.mk r t l9) s).fst.3 : List (List V)) = strV l13) ∧ (
        ((strV (feedF (Line.mk r t l10) s).fst.3 : List (List V)) = strV l13) ∧ (
        (((l13.length : Nat) ≤ 100000)) ∧ (
        (((feedF (Line.mk r t l9) s).fst.1 : Bool) = (feedF (Line.mk r t l10) s).fst.1) ∧ (
        (((feedF (Line.mk r t l9) s).fst.2 : List UInt8) = (feedF (Line.mk r t l10) s).fst.2) ∧ (
        br (eqS (feedF (Line.mk r t l9) s).2 (feedF (Line.mk r t l10) s).2) (
          ∃ l14 : List (List UInt8), ((strV (feedF (Line.mk r t l9) s).fst.3 : List (List V)) = strV l14) ∧ (
          ((strV (feedF (Line.mk (feedF (Line.mk r t l11) (cutS s 0 (minI (wrapI IntKind.i64 at_) (lenS s)))).fst.raw (feedF (Line.mk r t l11) (cutS s 0 (minI (wrapI IntKind.i64 at_) (lenS s)))).fst.text l12) (cutS s (minI (wrapI IntKind.i64 at_) (lenS s)) (lenS s))).fst.3 : List (List V)) = strV l14) ∧ (
          (((l14.length : Nat) ≤ 100000)) ∧ (
          (((feedF (Line.mk r t l9) s).fst.1 : Bool) = (feedF (Line.mk (feedF (Line.mk r t l11) (cutS s 0 (minI (wrapI IntKind.i64 at_) (lenS s)))).fst.raw (feedF (Line.mk r t l11) (cutS s 0 (minI (wrapI IntKind.i64 at_) (lenS s)))).fst.text l12) (cutS s (minI (wrapI IntKind.i64 at_) (lenS s)) (lenS s))).fst.1) ∧ (
          (((feedF (Line.mk r t l9) s).fst.2 : List UInt8) = (feedF (Line.mk (feedF (Line.mk r t l11) (cutS s 0 (minI (wrapI IntKind.i64 at_) (lenS s)))).fst.raw (feedF (Line.mk r t l11) (cutS s 0 (minI (wrapI IntKind.i64 at_) (lenS s)))).fst.text l12) (cutS s (minI (wrapI IntKind.i64 at_) (lenS s)) (lenS s))).fst.2) ∧ (
          need (catOk (feedF (Line.mk r t l11) (cutS s 0 (minI (wrapI IntKind.i64 at_) (lenS s)))).2 (feedF (Line.mk (feedF (Line.mk r t l11) (cutS s 0 (minI (wrapI IntKind.i64 at_) (lenS s)))).fst.raw (feedF (Line.mk r t l11) (cutS s 0 (minI (wrapI IntKind.i64 at_) (lenS s)))).fst.text l12) (cutS s (minI (wrapI IntKind.i64 at_) (lenS s)) (lenS s))).2) (
          br (eqS (feedF (Line.mk r t l9) s).2 (catS (feedF (Line.mk r t l11) (cutS s 0 (minI (wrapI IntKind.i64 at_) (lenS s)))).2 (feedF (Line.mk (feedF (Line.mk r t l11) (cutS s 0 (minI (wrapI IntKind.i64 at_) (lenS s)))).fst.raw (feedF (Line.mk r t l11) (cutS s 0 (minI (wrapI IntKind.i64 at_) (lenS s)))).fst.text l12) (cutS s (minI (wrapI IntKind.i64 at_) (lenS s)) (lenS s))).2)) (
            ∃ l15 : List (List UInt8), ((strV (feedF (Line.mk r t l9) s).fst.3 : List (List V)) = strV l15) ∧ (
            (((l15.length : Nat) ≤ 100000)) ∧ (
            ((((feedF (Line.mk r t l9) s).fst.2.length : Nat) ≤ 100000)) ∧ (
            br (rightL (Line.mk (feedF (Line.mk r t l9) s).fst.1 (feedF (Line.mk r t l9) s).fst.2 l15)) (
              K (V.bool true) []) (
              K (V.bool false) []))))) (
            K (V.bool false) [])))))))) (
          K (V.bool false) [])))))))))))))))))))))))))))))) := by kernel_rfl

theorem ll_vc (s : List UInt8) (K : V → List Bk → Prop) : vcF Try.prog cfgN (ctOf [(13, tokCon), (8, okCon), (9, feedCon), (14, readCon)]) (lpOf []) 4 [.str s] [] K = (
  br (ltI 1024 (lenS s)) (
    K (V.bool true) []) (
    (((s.length : Nat) ≤ 100000)) ∧ (
    br (notB (textOk s)) (
      K (V.bool true) []) (
      need (catOk s [10]) (
      ∃ l2 : List (List UInt8), (([] : List (List V)) = strV l2) ∧ (
      ((rightL (Line.mk false [] l2) : Bool) = true) ∧ (
      ((((catS s [10]).length : Nat) ≤ 100000)) ∧ (
      ∃ l3 : List (List UInt8), ((strV (feedF (Line.mk false (ByteArray.mk #[]).data.toList l2) (catS s (ByteArray.mk #[10]).data.toList)).fst.3 : List (List V)) = strV l3) ∧ (
      ((rightL (Line.mk (feedF (Line.mk false (ByteArray.mk #[]).data.toList l2) (catS s (ByteArray.mk #[10]).data.toList)).fst.1 (feedF (Line.mk false (ByteArray.mk #[]).data.toList l2) (catS s (ByteArray.mk #[10]).data.toList)).fst.2 l3) : Bool) = true) ∧ (
      ∃ l4 : List (List UInt8), ((strV (readF (Line.mk (feedF (Line.mk false (ByteArray.mk #[]).data.toList l2) (catS s (ByteArray.mk #[10]).data.toList)).fst.raw (feedF (Line.mk false (ByteArray.mk #[]).data.toList l2) (catS s (ByteArray.mk #[10]).data.toList)).fst.text l3) 1025).fst.3 : List (List V)) = strV l4) ∧ (
      ((rightL (Line.mk (readF (Line.mk (feedF (Line.mk false (ByteArray.mk #[]).data.toList l2) (catS s (ByteArray.mk #[10]).data.toList)).fst.raw (feedF (Line.mk false (ByteArray.mk #[]).data.toList l2) (catS s (ByteArray.mk #[10]).data.toList)).fst.text l3) 1025).fst.1 (readF (Line.mk (feedF (Line.mk false (ByteArray.mk #[]).data.toList l2) (catS s (ByteArray.mk #[10]).data.toList)).fst.raw (feedF (Line.mk false (ByteArray.mk #[]).data.toList l2) (catS s (ByteArray.mk #[10]).data.toList)).fst.text l3) 1025).fst.2 l4) : Bool) = true) ∧ (
      need (catOk s [10]) (
      br (eqS (feedF (Line.mk false (ByteArray.mk #[]).data.toList l2) (catS s (ByteArray.mk #[10]).data.toList)).2 (catS s [10])) (
        need (catOk s [10]) (
        br (eqS (readF (Line.mk (feedF (Line.mk false (ByteArray.mk #[]).data.toList l2) (catS s (ByteArray.mk #[10]).data.toList)).fst.raw (feedF (Line.mk false (ByteArray.mk #[]).data.toList l2) (catS s (ByteArray.mk #[10]).data.toList)).fst.text l3) 1025).snd.1 (catS s [10])) (
          br (notB (readF (Line.mk (feedF (Line.mk false (ByteArray.mk #[]).data.toList l2) (catS s (ByteArray.mk #[10]).data.toList)).fst.raw (feedF (Line.mk false (ByteArray.mk #[]).data.toList l2) (catS s (ByteArray.mk #[10]).data.toList)).fst.text l3) 1025).snd.2) (
            br ((readF (Line.mk (readF (Line.mk (feedF (Line.mk false (ByteArray.mk #[]).data.toList l2) (catS s (ByteArray.mk #[10]).data.toList)).fst.raw (feedF (Line.mk false (ByteArray.mk #[]).data.toList l2) (catS s (ByteArray.mk #[10]).data.toList)).fst.text l3) 1025).fst.raw (readF (Line.mk (feedF (Line.mk false (ByteArray.mk #[]).data.toList l2) (catS s (ByteArray.mk #[10]).data.toList)).fst.raw (feedF (Line.mk false (ByteArray.mk #[]).data.toList l2) (catS s (ByteArray.mk #[10]).data.toList)).fst.text l3) 1025).fst.text l4) 1).snd.2) (
              K (V.bool true) []) (
              K (V.bool false) [])) (
            K (V.bool false) [])) (
          K (V.bool false) []))) (
        K (V.bool false) [])))))))))))))) := by kernel_rfl

theorem le_vc (r : Bool) (t : List UInt8) (xs : List (List V)) (s : List UInt8) (I : eeC → eeX → eeX → Nat → Prop) (K : V → List Bk → Prop) : vcF Try.prog cfgN (ctOf [(6, smCon), (8, okCon), (7, rgCon), (13, tokCon), (9, feedCon), (15, typeCon), (11, sameCon)]) (lpOf [(7, eeL I)]) 5 [.agg [.bool r, .str t, .lst xs], .str s] [] K = (
  ∃ l6 : List (List UInt8), ((xs : List (List V)) = strV l6) ∧ (
  (lenT l6) ∧ (
  ∀ b7 : Bool, (smT t l6 b7) → (
  br (notB b7) (
    K (V.bool true) []) (
    ∃ l8 : List (List UInt8), ((xs : List (List V)) = strV l8) ∧ (
    (((l8.length : Nat) ≤ 100000)) ∧ (
    (((t.length : Nat) ≤ 100000)) ∧ (
    br (notB (rightL (Line.mk r t l8))) (
      K (V.bool true) []) (
      br (r) (
        K (V.bool true) []) (
        br (ltI 100 (lenS s)) (
          K (V.bool true) []) (
          (((s.length : Nat) ≤ 100000)) ∧ (
          br (notB (textOk s)) (
            K (V.bool true) []) (
            br (ltI 1024 (addI IntKind.i64 (lenS t) (lenS s))) (
              K (V.bool true) []) (
              ∃ l9 : List (List UInt8), ((xs : List (List V)) = strV l9) ∧ (
              ((rightL (Line.mk r t l9) : Bool) = true) ∧ (
              (((s.length : Nat) ≤ 100000)) ∧ (
              need (catOk t s) (
              br (notB (eqS (feedF (Line.mk r t l9) s).fst.2 (catS t s))) (
                K (V.bool false) []) (
                (∃ m10 : Nat, (((m10 : Nat) < 18446744073709551616)) ∧ (
                I (eeC.mk (lenS s) r t xs) (eeX.mk (feedF (Line.mk r t l9) s).fst.1 (feedF (Line.mk r t l9) s).fst.2 (strV (feedF (Line.mk r t l9) s).fst.3) 0) (eeX.mk (feedF (Line.mk r t l9) s).fst.1 (feedF (Line.mk r t l9) s).fst.2 (strV (feedF (Line.mk r t l9) s).fst.3) 0) m10)) ∧ (
                ∀ x10 : (eeL I).X, ∀ m11 : Nat, (I (eeC.mk (lenS s) r t xs) (eeX.mk (feedF (Line.mk r t l9) s).fst.1 (feedF (Line.mk r t l9) s).fst.2 (strV (feedF (Line.mk r t l9) s).fst.3) 0) x10 m11) → (
                br (ltI x10.4 (lenS s)) (
                  ∃ l12 : List (List UInt8), ((x10.3 : List (List V)) = strV l12) ∧ (
                  ((rightL (Line.mk x10.1 x10.2 l12) : Bool) = true) ∧ (
                  (((0 : Int) ≤ 127)) ∧ (
                  (((127 : Int) ≤ 255)) ∧ (
                  ((eeC.mk (lenS s) r t xs : (eeL I).C) = eeC.mk (lenS s) r t xs) ∧ (
                  ∃ m'13 : Nat, (((m'13 : Nat) < m11)) ∧ (
                  I (eeC.mk (lenS s) r t xs) (eeX.mk (feedF (Line.mk r t l9) s).fst.1 (feedF (Line.mk r t l9) s).fst.2 (strV (feedF (Line.mk r t l9) s).fst.3) 0) (eeX.mk (typeF (Line.mk x10.r2 x10.t2 l12) 127).fst.1 (typeF (Line.mk x10.r2 x10.t2 l12) 127).fst.2 (strV (typeF (Line.mk x10.r2 x10.t2 l12) 127).fst.3) (addI IntKind.i64 x10.4 1)) m'13))))))) (
                  ∃ l12 : List (List UInt8), ((x10.3 : List (List V)) = strV l12) ∧ (
                  ((xs : List (List V)) = strV l12) ∧ (
                  (((l12.length : Nat) ≤ 100000)) ∧ (
                  ((x10.1 : Bool) = r) ∧ (
                  ((x10.2 : List UInt8) = t) ∧ (
                  K (V.bool true) []))))))))))))))))))))))))))) := by kernel_rfl

end Go.Proofs.Ytdbbpibfejchfaa
namespace Go.Proofs.Ytdbbpibfejchfaa
open Go.RowKit
set_option maxRecDepth 100000
set_option linter.unusedVariables false
set_option linter.unusedSimpArgs false
def Says (f : Nat) (vs : List V) : Prop := ∃ r out, evalF Try.prog cfgN 20 f vs [] = some (r, out) ∧ r = .bool true ∧ out = []
theorem ok_con {n : Nat} (hn : 12 ≤ n) : ConOk (evalF Try.prog cfgN n) 8 okCon := by
  intro vs bs K h
  unfold okCon at h
  split at h
  · exact ⟨_, _, awake_ev hn, h⟩
  · exact h.elim
theorem pty_con {n : Nat} (hn : 4 ≤ n) : ConOk (evalF Try.prog cfgN n) 15 typeCon := by
  intro vs bs K h
  unfold typeCon at h
  split at h
  · rename_i r t xs c
    obtain ⟨l, rfl, hR, h0, h1, hK⟩ := h
    obtain ⟨a1, a2, a3, a4, a5⟩ := (rightL_iff _).1 hR
    dsimp only at a1 a2 a3 a4 a5
    refine run_of (lp := lpOf []) (by omega) (ct := ctOf [(18, ownCon), (20, typedCon)]) (fun k hk => ctOf_ok (ctOf_cons (own_con (by omega)) (ctOf_cons (ty_con (by omega)) (ctOf_nil _)))) ?_
    rw [pty_vc]
    refine ⟨l, rfl, by omega, l, rfl, rfl, rfl, hR, h0, h1, ?_⟩
    simp only [leN_succ, eqN_self, leI_self, br_ff, br_tt, need_tt, andB_tt, List.drop_zero, List.nil_append, List.append_nil, Nat.zero_add, Nat.add_zero, Nat.sub_zero, List.take_length, Int.ofNat_eq_natCast, Int.toNat_natCast, Int.toNat_zero, strV_all]
    exact ⟨hK, hK⟩
  · exact h.elim
theorem sm_con {n : Nat} (hn : 1 ≤ n) : ConOk (evalF Try.prog cfgN n) 6 smCon := by
  intro vs bs K h
  unfold smCon at h
  split at h
  · rename_i r t xs
    obtain ⟨l, rfl, hb, hK⟩ := h
    refine run_of (lp := lpOf [(5, smL fun _ _ x m => ∃ k : Nat, x.i = (k : Int) ∧ k + m = l.length ∧ 0 ≤ x.n ∧ x.n ≤ 50000)]) (by omega) (fun k hk => noCt_ok _) ?_
    rw [sm_vc]
    have no : K (.bool false) [] := hK false (fun h => by cases h)
    simp only [strV_lenL]
    rw [br_iff]; refine ⟨fun _ => no, fun g1 => ?_⟩
    rw [br_iff]; refine ⟨fun _ => no, fun g2 => ⟨⟨l.length, by simp only [br_iff, need_iff, andB_t, andB_f, orB_t, orB_f, notB_t, notB_f, leI_t, leI_f, ltI_t, ltI_f, eqI_t, eqI_f, leN_t, leN_f, eqN_t, eqN_f, eqS_t, eqS_f, eqB_t, eqB_f, catOk_t, leC_t] at g2; omega, 0, rfl, by omega, by omega, by omega⟩, ?_⟩⟩
    rintro ⟨n, i⟩ m ⟨k, rfl, hk, hn0, hn1⟩
    dsimp only at hn0 hn1 ⊢
    rw [br_iff]
    refine ⟨fun hlt => ?_, fun hge => hK true fun _ => ?_⟩
    · have hlt : k < l.length := by simp only [br_iff, need_iff, andB_t, andB_f, orB_t, orB_f, notB_t, notB_f, leI_t, leI_f, ltI_t, ltI_f, eqI_t, eqI_f, leN_t, leN_f, eqN_t, eqN_f, eqS_t, eqS_f, eqB_t, eqB_f, catOk_t, leC_t] at hlt; omega
      have gf : l[k]? = some l[k] := List.getElem?_eq_getElem hlt
      generalize l[k] = f at gf
      have rf := strV_row gf
      have kf : okRow (strV l) (Int.toNat (k : Int)) 1 = true := by simpa using strV_ok (l := l) (i := k) hlt
      have nf : andB (leI 0 (k : Int)) (ltI (k : Int) (l.length : Int)) = true := by simp only [br_iff, need_iff, andB_t, andB_f, orB_t, orB_f, notB_t, notB_f, leI_t, leI_f, ltI_t, ltI_f, eqI_t, eqI_f, leN_t, leN_f, eqN_t, eqN_f, eqS_t, eqS_f, eqB_t, eqB_f, catOk_t, leC_t]; omega
      have hm := hb _ (List.mem_of_getElem? gf)
      rw [need_iff, need_iff]
      refine ⟨nf, kf, ?_⟩
      try rw [rf]
      repeat apply Exists.intro
      refine ⟨rfl, ?_⟩
      rw [addI_i64 (a := n) (by unfold lenS; omega) (by unfold lenS; omega)]
      rw [br_iff]
      refine ⟨fun _ => no, fun g => ⟨by trivial, m - 1, by omega, k + 1, ?_, by omega, by unfold lenS; omega, by simp only [br_iff, need_iff, andB_t, andB_f, orB_t, orB_f, notB_t, notB_f, leI_t, leI_f, ltI_t, ltI_f, eqI_t, eqI_f, leN_t, leN_f, eqN_t, eqN_f, eqS_t, eqS_f, eqB_t, eqB_f, catOk_t, leC_t] at g; exact g⟩⟩
      rw [addI_i64 (by omega) (by simp only [br_iff, need_iff, andB_t, andB_f, orB_t, orB_f, notB_t, notB_f, leI_t, leI_f, ltI_t, ltI_f, eqI_t, eqI_f, leN_t, leN_f, eqN_t, eqN_f, eqS_t, eqS_f, eqB_t, eqB_f, catOk_t, leC_t] at g2; omega)]; rfl
    · simp only [br_iff, need_iff, andB_t, andB_f, orB_t, orB_f, notB_t, notB_f, leI_t, leI_f, ltI_t, ltI_f, eqI_t, eqI_f, leN_t, leN_f, eqN_t, eqN_f, eqS_t, eqS_f, eqB_t, eqB_f, catOk_t, leC_t, lenS] at g1 g2; omega
  · exact h.elim
theorem pl_con {n : Nat} (hn : 2 ≤ n) : ConOk (evalF Try.prog cfgN n) 13 tokCon := by
  intro vs bs K h
  unfold tokCon at h
  split at h
  · rename_i t
    obtain ⟨hb, hK⟩ := h
    refine run_of (lp := lpOf [(2, plL fun _ _ x m => ∃ k : Nat, x = ⟨(k : Int)⟩ ∧ k + m = t.length ∧ textOk (t.take k) = true)]) (by omega) (ct := ctOf [(16, prCon)]) (fun k hk => ctOf_ok (ctOf_cons (rpr_con (by omega)) (ctOf_nil _))) ?_
    rw [pl_vc]
    refine ⟨⟨t.length, by omega, 0, rfl, by omega, rfl⟩, ?_⟩
    rintro _ m ⟨k, rfl, hk, hp⟩
    dsimp only
    rw [br_iff]
    refine ⟨fun hlt => ?_, fun hge => ?_⟩
    · have hlt : k < t.length := by simp only [br_iff, need_iff, andB_t, andB_f, orB_t, orB_f, notB_t, notB_f, leI_t, leI_f, ltI_t, ltI_f, eqI_t, eqI_f, leN_t, leN_f, eqN_t, eqN_f, eqS_t, eqS_f, eqB_t, eqB_f, catOk_t, leC_t, lenS] at hlt; omega
      rw [need_iff]; refine ⟨by simp only [br_iff, need_iff, andB_t, andB_f, orB_t, orB_f, notB_t, notB_f, leI_t, leI_f, ltI_t, ltI_f, eqI_t, eqI_f, leN_t, leN_f, eqN_t, eqN_f, eqS_t, eqS_f, eqB_t, eqB_f, catOk_t, leC_t, lenS]; omega, ?_⟩
      rw [br_iff]
      refine ⟨fun q => ?_, fun q => ⟨by trivial, m - 1, by omega, k + 1, by rw [addI_i64 (by omega) (by omega)]; rfl, by omega, ?_⟩⟩
      · rw [textOk_no hlt (by simpa only [br_iff, need_iff, andB_t, andB_f, orB_t, orB_f, notB_t, notB_f, leI_t, leI_f, ltI_t, ltI_f, eqI_t, eqI_f, leN_t, leN_f, eqN_t, eqN_f, eqS_t, eqS_f, eqB_t, eqB_f, catOk_t, leC_t] using q)] at hK; exact hK
      · rw [textOk_step hlt, hp, show prB (atS t (k : Int)) = true by simpa only [br_iff, need_iff, andB_t, andB_f, orB_t, orB_f, notB_t, notB_f, leI_t, leI_f, ltI_t, ltI_f, eqI_t, eqI_f, leN_t, leN_f, eqN_t, eqN_f, eqS_t, eqS_f, eqB_t, eqB_f, catOk_t, leC_t] using q]; rfl
    · have : k = t.length := by simp only [br_iff, need_iff, andB_t, andB_f, orB_t, orB_f, notB_t, notB_f, leI_t, leI_f, ltI_t, ltI_f, eqI_t, eqI_f, leN_t, leN_f, eqN_t, eqN_f, eqS_t, eqS_f, eqB_t, eqB_f, catOk_t, leC_t, lenS] at hge; omega
      subst this
      rw [List.take_length] at hp
      rw [hp] at hK; exact hK
  · exact h.elim
theorem sa_con {n : Nat} (hn : 1 ≤ n) : ConOk (evalF Try.prog cfgN n) 11 sameCon := by
  intro vs bs K h
  unfold sameCon at h
  split at h
  · rename_i r t xs r2 t2 ys
    obtain ⟨l, rfl, rfl, hb, rfl, rfl, hK⟩ := h
    refine run_of (lp := lpOf [(4, saL fun _ _ x m => ∃ k : Nat, x = ⟨(k : Int)⟩ ∧ k + m = l.length)]) (by omega) (fun k hk => noCt_ok _) ?_
    rw [sa_vc]
    simp only [strV_lenL]
    rw [br_iff]; refine ⟨fun g => by simp only [br_iff, need_iff, andB_t, andB_f, orB_t, orB_f, notB_t, notB_f, leI_t, leI_f, ltI_t, ltI_f, eqI_t, eqI_f, leN_t, leN_f, eqN_t, eqN_f, eqS_t, eqS_f, eqB_t, eqB_f, catOk_t, leC_t] at g; exact absurd rfl g, fun _ => ?_⟩
    rw [br_iff]; refine ⟨fun g => by simp only [br_iff, need_iff, andB_t, andB_f, orB_t, orB_f, notB_t, notB_f, leI_t, leI_f, ltI_t, ltI_f, eqI_t, eqI_f, leN_t, leN_f, eqN_t, eqN_f, eqS_t, eqS_f, eqB_t, eqB_f, catOk_t, leC_t] at g; exact absurd rfl g, fun _ => ?_⟩
    rw [br_iff]; refine ⟨fun g => by simp only [br_iff, need_iff, andB_t, andB_f, orB_t, orB_f, notB_t, notB_f, leI_t, leI_f, ltI_t, ltI_f, eqI_t, eqI_f, leN_t, leN_f, eqN_t, eqN_f, eqS_t, eqS_f, eqB_t, eqB_f, catOk_t, leC_t] at g; exact absurd rfl g, fun _ => ⟨⟨l.length, by omega, 0, rfl, by omega⟩, ?_⟩⟩
    rintro _ m ⟨k, rfl, hk⟩
    dsimp only
    rw [br_iff]
    refine ⟨fun hlt => ?_, fun hge => hK⟩
    have hlt : k < l.length := by simp only [br_iff, need_iff, andB_t, andB_f, orB_t, orB_f, notB_t, notB_f, leI_t, leI_f, ltI_t, ltI_f, eqI_t, eqI_f, leN_t, leN_f, eqN_t, eqN_f, eqS_t, eqS_f, eqB_t, eqB_f, catOk_t, leC_t] at hlt; omega
    have gf : l[k]? = some l[k] := List.getElem?_eq_getElem hlt
    generalize l[k] = f at gf
    have rf := strV_row gf
    have kf : okRow (strV l) (Int.toNat (k : Int)) 1 = true := by simpa using strV_ok (l := l) (i := k) hlt
    have nf : andB (leI 0 (k : Int)) (ltI (k : Int) (l.length : Int)) = true := by simp only [br_iff, need_iff, andB_t, andB_f, orB_t, orB_f, notB_t, notB_f, leI_t, leI_f, ltI_t, ltI_f, eqI_t, eqI_f, leN_t, leN_f, eqN_t, eqN_f, eqS_t, eqS_f, eqB_t, eqB_f, catOk_t, leC_t]; omega
    rw [need_iff, need_iff]
    refine ⟨nf, kf, ?_⟩
    try rw [rf]
    repeat apply Exists.intro
    refine ⟨rfl, ?_⟩
    rw [need_iff, need_iff]
    refine ⟨nf, kf, ?_⟩
    try rw [rf]
    repeat apply Exists.intro
    refine ⟨rfl, ?_⟩
    rw [br_iff]
    exact ⟨fun g => by simp only [br_iff, need_iff, andB_t, andB_f, orB_t, orB_f, notB_t, notB_f, leI_t, leI_f, ltI_t, ltI_f, eqI_t, eqI_f, leN_t, leN_f, eqN_t, eqN_f, eqS_t, eqS_f, eqB_t, eqB_f, catOk_t, leC_t] at g; exact absurd rfl g, fun _ => ⟨by trivial, m - 1, by omega, k + 1, by rw [addI_i64 (by omega) (by omega)]; rfl, by omega⟩⟩
  · exact h.elim
theorem rightL_small {l : Line} (h : rightL l = true) : l.text.length ≤ 100000 ∧ l.ready.length ≤ 100000 := by
  obtain ⟨a1, a2, a3, a4, a5⟩ := (rightL_iff _).1 h
  omega
theorem lf_says {l : Line} {s : List UInt8} {a : Int} (hl : l.fit) (h0 : 0 ≤ a) (h1 : a ≤ 255) : Says 3 [.agg l.v, .str s, .int .u8 a] := by
  refine run_of (lp := lpOf []) (ct := ctOf [(6, smCon), (8, okCon), (7, rgCon), (12, rgCon), (9, feedCon), (10, feedCon), (11, sameCon)]) (by omega)
    (fun k hk => ctOf_ok (ctOf_cons (sm_con (by omega)) (ctOf_cons (ok_con (by omega)) (ctOf_cons (rrg_con (by omega)) (ctOf_cons (rg_con (by omega)) (ctOf_cons (fd_con (by omega)) (ctOf_cons (rfd_con (by omega)) (ctOf_cons (sa_con (by omega)) (ctOf_nil _))))))))) ?_
  obtain ⟨r, t, l⟩ := l
  obtain ⟨_, f1, f2, f3⟩ := hl
  refine cast (lf_vc r t (strV l) s a fun r out => r = .bool true ∧ out = []).symm ?_
  have tt : (V.bool true = V.bool true ∧ ([] : List Bk) = []) := ⟨rfl, rfl⟩
  refine ⟨l, rfl, f3, fun b hb => ?_⟩
  rw [br_iff]; refine ⟨fun _ => tt, fun g => ?_⟩
  have hs := hb (by simpa [notB] using g)
  rw [br_iff]; refine ⟨fun _ => tt, fun g2 => ?_⟩
  have hs2 : s.length ≤ 200 := by simp only [br_iff, need_iff, andB_t, andB_f, orB_t, orB_f, notB_t, notB_f, leI_t, leI_f, ltI_t, ltI_f, eqI_t, eqI_f, leN_t, leN_f, eqN_t, eqN_f, eqS_t, eqS_f, eqB_t, eqB_f, catOk_t, leC_t, lenS] at g2; omega
  refine ⟨l, rfl, by omega, by omega, ?_⟩
  rw [br_iff]; refine ⟨fun _ => tt, fun g3 => ?_⟩
  have hR : rightL ⟨r, t, l⟩ = true := by simpa [notB] using g3
  have hF := feedF_right s hR
  refine ⟨l, rfl, hR, by omega, l, rfl, hR, by omega, ?_⟩
  have hw : wrapI .i64 a = a := wrap64 (by omega) (by omega)
  obtain ⟨k, hk, hk2⟩ : ∃ k : Nat, minI (wrapI .i64 a) (lenS s) = (k : Int) ∧ k ≤ s.length := by
    rw [hw]; unfold minI lenS
    exact ⟨(min a s.length).toNat, by omega, by omega⟩
  rw [hk]
  have e1 : cutS s 0 (k : Int) = s.take k := by simp [cutS]
  have e2 : cutS s (k : Int) (lenS s) = s.drop k := by
    simp only [cutS, lenS, Int.toNat_natCast]
    exact List.take_of_length_le (by simp)
  rw [e1, e2]
  have hp := feedF_app (s.take k) ⟨r, t, l⟩ (s.drop k)
  rw [List.take_append_drop] at hp
  have hF1 := feedF_right (s.take k) hR
  have hE1 := feedF_echo (s.take k) hR
  have hE2 := feedF_echo (s.drop k) hF1
  rw [List.length_take] at hE1
  rw [List.length_drop] at hE2
  generalize hq1 : feedF ⟨r, t, l⟩ (s.take k) = q1 at hp hF1 hE1 hE2 ⊢
  obtain ⟨⟨r1, t1, l1⟩, u1⟩ := q1
  dsimp only at hp hF1 hE1 hE2 ⊢
  rw [need_iff]; refine ⟨by simp only [br_iff, need_iff, andB_t, andB_f, orB_t, orB_f, notB_t, notB_f, leI_t, leI_f, ltI_t, ltI_f, eqI_t, eqI_f, leN_t, leN_f, eqN_t, eqN_f, eqS_t, eqS_f, eqB_t, eqB_f, catOk_t, leC_t, lenS]; omega, l, rfl, hR, by simp; omega, ?_⟩
  rw [need_iff]; refine ⟨by simp only [br_iff, need_iff, andB_t, andB_f, orB_t, orB_f, notB_t, notB_f, leI_t, leI_f, ltI_t, ltI_f, eqI_t, eqI_f, leN_t, leN_f, eqN_t, eqN_f, eqS_t, eqS_f, eqB_t, eqB_f, catOk_t, leC_t, lenS]; omega, l1, by rw [hq1], by rw [hq1]; exact hF1, by simp; omega, ?_⟩
  rw [hq1]
  dsimp only
  generalize hq2 : feedF ⟨r1, t1, l1⟩ (s.drop k) = q2 at hp hE2 ⊢
  obtain ⟨⟨r2, t2, l2⟩, u2⟩ := q2
  dsimp only at hp hE2
  have hsz := rightL_small hF
  rw [hp] at hF hsz ⊢
  dsimp only at hF hsz ⊢
  refine ⟨l2, rfl, rfl, hsz.2, rfl, rfl, ?_⟩
  rw [br_iff]; refine ⟨fun _ => ⟨l2, rfl, rfl, hsz.2, rfl, rfl, ?_⟩, fun g => by simp only [br_iff, need_iff, andB_t, andB_f, orB_t, orB_f, notB_t, notB_f, leI_t, leI_f, ltI_t, ltI_f, eqI_t, eqI_f, leN_t, leN_f, eqN_t, eqN_f, eqS_t, eqS_f, eqB_t, eqB_f, catOk_t, leC_t] at g; exact absurd rfl g⟩
  rw [need_iff]; refine ⟨by simp only [br_iff, need_iff, andB_t, andB_f, orB_t, orB_f, notB_t, notB_f, leI_t, leI_f, ltI_t, ltI_f, eqI_t, eqI_f, leN_t, leN_f, eqN_t, eqN_f, eqS_t, eqS_f, eqB_t, eqB_f, catOk_t, leC_t]; omega, ?_⟩
  rw [br_iff]; refine ⟨fun _ => ⟨l2, rfl, hsz.2, hsz.1, ?_⟩, fun g => by simp only [br_iff, need_iff, andB_t, andB_f, orB_t, orB_f, notB_t, notB_f, leI_t, leI_f, ltI_t, ltI_f, eqI_t, eqI_f, leN_t, leN_f, eqN_t, eqN_f, eqS_t, eqS_f, eqB_t, eqB_f, catOk_t, leC_t] at g; exact absurd rfl g⟩
  rw [hF]
  exact tt
theorem ll_says {s : List UInt8} : Says 4 [.str s] := by
  refine run_of (lp := lpOf []) (ct := ctOf [(13, tokCon), (8, okCon), (9, feedCon), (14, readCon)]) (by omega)
    (fun k hk => ctOf_ok (ctOf_cons (pl_con (by omega)) (ctOf_cons (ok_con (by omega)) (ctOf_cons (fd_con (by omega)) (ctOf_cons (rd_con (by omega)) (ctOf_nil _)))))) ?_
  refine cast (ll_vc s fun r out => r = .bool true ∧ out = []).symm ?_
  have tt : (V.bool true = V.bool true ∧ ([] : List Bk) = []) := ⟨rfl, rfl⟩
  rw [br_iff]; refine ⟨fun _ => tt, fun g => ?_⟩
  have hs : s.length ≤ 1024 := by simp only [br_iff, need_iff, andB_t, andB_f, orB_t, orB_f, notB_t, notB_f, leI_t, leI_f, ltI_t, ltI_f, eqI_t, eqI_f, leN_t, leN_f, eqN_t, eqN_f, eqS_t, eqS_f, eqB_t, eqB_f, catOk_t, leC_t, lenS] at g; omega
  refine ⟨by omega, ?_⟩
  rw [br_iff]; refine ⟨fun _ => tt, fun g2 => ?_⟩
  have ht : textOk s = true := by simpa [notB] using g2
  have hc : catOk s [10] = true := by simp only [br_iff, need_iff, andB_t, andB_f, orB_t, orB_f, notB_t, notB_f, leI_t, leI_f, ltI_t, ltI_f, eqI_t, eqI_f, leN_t, leN_f, eqN_t, eqN_f, eqS_t, eqS_f, eqB_t, eqB_f, catOk_t, leC_t, List.length_singleton]; omega
  have hf : feedF ⟨false, [], []⟩ (s ++ [10]) = (⟨false, [], [s ++ [10]]⟩, s ++ [10]) := by
    rw [feedF_snoc, feedF_pr s rfl ht (by simp; omega)]
    have : typeF (⟨false, s, []⟩ : Line) ((10 : UInt8).toNat : Int) = (⟨false, [], [s ++ [10]]⟩, [10]) := by
      unfold typeF
      rw [if_neg (by simp), if_neg (by decide), if_pos (by decide), if_pos (by simp)]
      rfl
    simp only [List.nil_append]
    rw [this]
  have hr0 : rightL (⟨false, [], []⟩ : Line) = true := by decide
  have hr1 : rightL (⟨false, [], [s ++ [10]]⟩ : Line) = true := by
    have := feedF_right (s ++ [10]) hr0
    rw [hf] at this; exact this
  have hrd : readF (⟨false, [], [s ++ [10]]⟩ : Line) 1025 = (⟨false, [], []⟩, s ++ [10], false) := by
    rw [readF_cons, if_pos (by unfold readN; simp; omega)]
  have e0 : catS s (ByteArray.mk #[10]).data.toList = s ++ [10] := rfl
  have e1 : catS s [10] = s ++ [10] := rfl
  rw [need_iff]; refine ⟨hc, [], rfl, hr0, by rw [e1]; simp; omega, ?_⟩
  simp only [e0, e1]
  have e9 : (ByteArray.mk #[]).data.toList = ([] : List UInt8) := rfl
  simp only [e9, hf]
  refine ⟨[s ++ [10]], rfl, hr1, ?_⟩
  rw [hrd]
  refine ⟨[], rfl, hr0, ?_⟩
  rw [need_iff]; refine ⟨hc, ?_⟩
  rw [br_iff]; refine ⟨fun _ => ?_, fun g => by simp only [br_iff, need_iff, andB_t, andB_f, orB_t, orB_f, notB_t, notB_f, leI_t, leI_f, ltI_t, ltI_f, eqI_t, eqI_f, leN_t, leN_f, eqN_t, eqN_f, eqS_t, eqS_f, eqB_t, eqB_f, catOk_t, leC_t] at g; exact absurd rfl g⟩
  rw [need_iff]; refine ⟨hc, ?_⟩
  rw [br_iff]; refine ⟨fun _ => ?_, fun g => by simp only [br_iff, need_iff, andB_t, andB_f, orB_t, orB_f, notB_t, notB_f, leI_t, leI_f, ltI_t, ltI_f, eqI_t, eqI_f, leN_t, leN_f, eqN_t, eqN_f, eqS_t, eqS_f, eqB_t, eqB_f, catOk_t, leC_t] at g; exact absurd rfl g⟩
  exact (⟨trivial, trivial⟩ : True ∧ True)
theorem del_run : ∀ (k : Nat) {l : Line} {s : List UInt8}, l.raw = false → k ≤ s.length → delN k ⟨l.raw, l.text ++ s, l.ready⟩ = ⟨l.raw, l.text ++ s.take (s.length - k), l.ready⟩
  | 0, l, s, hr, hk => by simp [delN]
  | k + 1, l, s, hr, hk => by
    rw [delN, type127 (l := ⟨l.raw, l.text ++ s, l.ready⟩) hr]
    have e : (l.text ++ s).take ((l.text ++ s).length - 1) = l.text ++ s.take (s.length - 1) := by
      rw [List.length_append, List.take_append, List.take_of_length_le (by omega)]
      congr 2; omega
    simp only
    rw [e, del_run k (l := l) (s := s.take (s.length - 1)) hr (by simp; omega)]
    rw [List.length_take, List.take_take]
    congr 3; omega
theorem le_says {l : Line} {s : List UInt8} (hl : l.fit) : Says 5 [.agg l.v, .str s] := by
  obtain ⟨r, t, l⟩ := l
  obtain ⟨_, f1, f2, f3⟩ := hl
  refine run_of (lp := lpOf [(7, eeL fun _ _ x m => ∃ k : Nat, x = ⟨r, t ++ s.take (s.length - k), strV l, (k : Int)⟩ ∧ k + m = s.length)]) (ct := ctOf [(6, smCon), (8, okCon), (7, rgCon), (13, tokCon), (9, feedCon), (15, typeCon), (11, sameCon)]) (by omega)
    (fun k hk => ctOf_ok (ctOf_cons (sm_con (by omega)) (ctOf_cons (ok_con (by omega)) (ctOf_cons (rrg_con (by omega)) (ctOf_cons (pl_con (by omega)) (ctOf_cons (fd_con (by omega)) (ctOf_cons (pty_con (by omega)) (ctOf_cons (sa_con (by omega)) (ctOf_nil _))))))))) ?_
  refine cast (le_vc r t (strV l) s (fun _ _ x m => ∃ k : Nat, x = ⟨r, t ++ s.take (s.length - k), strV l, (k : Int)⟩ ∧ k + m = s.length) fun r out => r = .bool true ∧ out = []).symm ?_
  have tt : (V.bool true = V.bool true ∧ ([] : List Bk) = []) := ⟨rfl, rfl⟩
  refine ⟨l, rfl, f3, fun b hb => ?_⟩
  rw [br_iff]; refine ⟨fun _ => tt, fun g => ?_⟩
  have hs := hb (by simpa [notB] using g)
  refine ⟨l, rfl, by omega, by omega, ?_⟩
  rw [br_iff]; refine ⟨fun _ => tt, fun g3 => ?_⟩
  have hR : rightL ⟨r, t, l⟩ = true := by simpa [notB] using g3
  rw [br_iff]; refine ⟨fun _ => tt, fun hr => ?_⟩
  subst hr
  rw [br_iff]; refine ⟨fun _ => tt, fun g2 => ?_⟩
  have hs2 : s.length ≤ 100 := by simp only [br_iff, need_iff, andB_t, andB_f, orB_t, orB_f, notB_t, notB_f, leI_t, leI_f, ltI_t, ltI_f, eqI_t, eqI_f, leN_t, leN_f, eqN_t, eqN_f, eqS_t, eqS_f, eqB_t, eqB_f, catOk_t, leC_t, lenS] at g2; omega
  refine ⟨by omega, ?_⟩
  rw [br_iff]; refine ⟨fun _ => tt, fun g4 => ?_⟩
  have ht : textOk s = true := by simpa [notB] using g4
  rw [br_iff]; refine ⟨fun _ => tt, fun g5 => ?_⟩
  have hlen : t.length + s.length ≤ 1024 := by
    rw [addI_i64 (by unfold lenS; omega) (by unfold lenS; omega)] at g5
    simp only [br_iff, need_iff, andB_t, andB_f, orB_t, orB_f, notB_t, notB_f, leI_t, leI_f, ltI_t, ltI_f, eqI_t, eqI_f, leN_t, leN_f, eqN_t, eqN_f, eqS_t, eqS_f, eqB_t, eqB_f, catOk_t, leC_t, lenS] at g5; omega
  have hf := feedF_pr s (l := ⟨false, t, l⟩) rfl ht hlen
  dsimp only at hf
  refine ⟨l, rfl, hR, by omega, ?_⟩
  rw [hf]
  dsimp only
  rw [need_iff]; refine ⟨by simp only [br_iff, need_iff, andB_t, andB_f, orB_t, orB_f, notB_t, notB_f, leI_t, leI_f, ltI_t, ltI_f, eqI_t, eqI_f, leN_t, leN_f, eqN_t, eqN_f, eqS_t, eqS_f, eqB_t, eqB_f, catOk_t, leC_t]; omega, ?_⟩
  rw [br_iff]; refine ⟨fun g => by simp only [br_iff, need_iff, andB_t, andB_f, orB_t, orB_f, notB_t, notB_f, leI_t, leI_f, ltI_t, ltI_f, eqI_t, eqI_f, leN_t, leN_f, eqN_t, eqN_f, eqS_t, eqS_f, eqB_t, eqB_f, catOk_t, leC_t] at g; exact absurd rfl g, fun _ => ?_⟩
  refine ⟨⟨s.length, by omega, 0, by rw [Nat.sub_zero, List.take_length]; rfl, by omega⟩, ?_⟩
  rintro _ m ⟨k, rfl, hk⟩
  dsimp only
  obtain ⟨a1, a2, a3, a4, a5⟩ := (rightL_iff _).1 hR
  dsimp only at a1 a2 a3 a4 a5
  rw [br_iff]
  refine ⟨fun q => ?_, fun q => ?_⟩
  · have hlt : k < s.length := by simp only [br_iff, need_iff, andB_t, andB_f, orB_t, orB_f, notB_t, notB_f, leI_t, leI_f, ltI_t, ltI_f, eqI_t, eqI_f, leN_t, leN_f, eqN_t, eqN_f, eqS_t, eqS_f, eqB_t, eqB_f, catOk_t, leC_t, lenS] at q; omega
    refine ⟨l, rfl, ?_, by omega, by omega, by trivial, m - 1, by omega, k + 1, ?_, by omega⟩
    · rw [rightL_iff]
      exact ⟨by simp; omega, (fun h => by cases h), a3, by rw [textOk_app, a4, textOk_take _ _ ht]; rfl, a5⟩
    · rw [type127 rfl, addI_i64 (by omega) (by omega)]
      simp only
      have e : (t ++ s.take (s.length - k)).take ((t ++ s.take (s.length - k)).length - 1) = t ++ s.take (s.length - (k + 1)) := by
        rw [List.length_append, List.length_take, List.take_append, List.take_of_length_le (by omega), List.take_take]
        congr 2; omega
      rw [e]; rfl
  · have : k = s.length := by simp only [br_iff, need_iff, andB_t, andB_f, orB_t, orB_f, notB_t, notB_f, leI_t, leI_f, ltI_t, ltI_f, eqI_t, eqI_f, leN_t, leN_f, eqN_t, eqN_f, eqS_t, eqS_f, eqB_t, eqB_f, catOk_t, leC_t, lenS] at q; omega
    subst this
    refine ⟨l, rfl, rfl, by omega, rfl, by simp, tt⟩
def feedsSh : List Sh := [lineSh, .str, .int .u8]
def linesSh : List Sh := [.str]
def erasesSh : List Sh := [lineSh, .str]
theorem line_fits {v : V} (h : FitsA lineSh v) : ∃ l : Line, v = .agg l.v ∧ l.fit := by
  obtain ⟨vs, rfl, h⟩ := h
  obtain ⟨l, rfl, hf⟩ := Line.fits h
  exact ⟨l, rfl, hf⟩
theorem str_fits {v : V} (h : FitsA .str v) : ∃ s : List UInt8, v = .str s := by
  obtain ⟨s, h, _⟩ := h
  exact ⟨s, by simpa using h⟩
theorem u8_fits {v : V} (h : FitsA (.int .u8) v) : ∃ a : Int, v = .int .u8 a ∧ 0 ≤ a ∧ a ≤ 255 := by
  obtain ⟨a, h, h1, h2⟩ := h
  have e1 : IntKind.u8.min = 0 := by decide
  have e2 : IntKind.u8.max = 255 := by decide
  exact ⟨a, by simpa using h, by omega, by omega⟩
theorem feeds_fits {us : List V} (h : FitsAll feedsSh us) : Says 3 us := by
  obtain ⟨v0, r0, rfl, h0, v1, r1, rfl, h1, v2, r2, rfl, h2, rfl⟩ := h
  obtain ⟨l, rfl, hf⟩ := line_fits h0
  obtain ⟨s, rfl⟩ := str_fits h1
  obtain ⟨a, rfl, ha, hb⟩ := u8_fits h2
  exact lf_says hf ha hb
theorem lines_fits {us : List V} (h : FitsAll linesSh us) : Says 4 us := by
  obtain ⟨v0, r0, rfl, h0, rfl⟩ := h
  obtain ⟨s, rfl⟩ := str_fits h0
  exact ll_says
theorem erases_fits {us : List V} (h : FitsAll erasesSh us) : Says 5 us := by
  obtain ⟨v0, r0, rfl, h0, v1, r1, rfl, h1, rfl⟩ := h
  obtain ⟨l, rfl, hf⟩ := line_fits h0
  obtain ⟨s, rfl⟩ := str_fits h1
  exact le_says hf
end Go.Proofs.Ytdbbpibfejchfaa
