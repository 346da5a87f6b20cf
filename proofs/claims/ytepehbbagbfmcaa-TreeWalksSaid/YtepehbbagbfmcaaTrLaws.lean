/- Trees: conditions of the first laws. -/
import Derived.Test.YtepehbbagbfmcaaTrMake
import Derived.Test.YtepehbbagbfmcaaTrBase
import Derived.Test.YtepehbbagbfmcaaEvF
namespace Go.Proofs.Ytepehbbagbfmcaa
open Go.RowKit
set_option maxRecDepth 100000
set_option linter.unusedVariables false
set_option linter.unusedSimpArgs false
def smallT (l : List Node) : Bool := decide (l.length ≤ 100 ∧ (∀ x ∈ l, x.data.length ≤ 70000 ∧ x.name.length ≤ 1000 ∧ x.uid.length ≤ 1000 ∧ x.gid.length ≤ 1000 ∧ x.muid.length ≤ 1000) ∧ (l.map fun x => x.data.length).sum ≤ 200000)

def shortL (l : List Node) : Prop := l.length ≤ 1000000000000000000 ∧ ∀ x ∈ l, x.data.length ≤ 1000000000000000000

def smallCon : Con := fun vs bs K => match vs, bs with
  | [.agg [.int .i64 n, .lst xs]], [] => ∃ l, xs = nodeV l ∧ shortL l ∧ K (.bool (smallT l)) []
  | _, _ => False

def okCon : Con := fun vs bs K => match vs, bs with
  | [], [] => K (.bool true) []
  | _, _ => False

def sameCon : Con := fun vs bs K => match vs, bs with
  | [.agg [.int .i64 a, .lst xs], .agg [.int .i64 b, .lst ys]], [] => ∃ l, xs = nodeV l ∧ ys = nodeV l ∧ a = b ∧ l.length ≤ 1000000000000000000 ∧ K (.bool true) []
  | _, _ => False

def isNew (l : List Node) (uid : List UInt8) (perm now : Int) : Prop := l = newT uid perm now

def newCon2 : Con := fun vs bs K => match vs, bs with
  | [.str uid, .int .i64 perm, .int .i64 now], [] => -9223372036854775808 ≤ perm ∧ perm ≤ 9223372036854775807 ∧ ∀ l : List Node, isNew l uid perm now → K (.agg [.int .i64 2, .lst (nodeV l)]) []
  | _, _ => False

structure smC where
  next : Int
  xs : List (List V)
  cnt : Int
structure smX where
  n : Int
  i : Int
def smSt (c : smC) (x : smX) : St := ⟨[(1, .ptr 0 0 0), (3, .int .i64 x.n), (8, .int .i64 c.cnt), (9, .int .i64 x.i)], [(0, ⟨true, true, true, [[.int .i64 c.next, .lst c.xs]], 0⟩)]⟩
set_option maxHeartbeats 4000000 in
def smUn (s : St) : Option (smC × smX) :=
  match s with
  | ⟨[(q0, .ptr q1 q2 q3), (q4, .int .i64 n), (q5, .int .i64 cnt), (q6, .int .i64 i)], [(q7, ⟨true, true, true, [[.int .i64 next, .lst xs]], q8⟩)]⟩ => bif Nat.beq q0 1 && Nat.beq q1 0 && Nat.beq q2 0 && Nat.beq q3 0 && Nat.beq q4 3 && Nat.beq q5 8 && Nat.beq q6 9 && Nat.beq q7 0 && Nat.beq q8 0 then some (⟨next, xs, cnt⟩, ⟨n, i⟩) else none
  | _ => none
set_option maxHeartbeats 4000000 in
def smL (inv : smC → smX → smX → Nat → Prop) : LoopS where
  C := smC
  X := smX
  st := smSt
  un := smUn
  ok := by
    intro s c x h
    unfold smUn at h
    split at h
    · simp only [Bool.cond_eq_ite] at h
      split at h
      · rename_i hg
        simp only [Bool.and_eq_true, Nat.beq_eq] at hg
        obtain ⟨⟨⟨⟨⟨⟨⟨⟨rfl, rfl⟩, rfl⟩, rfl⟩, rfl⟩, rfl⟩, rfl⟩, rfl⟩, rfl⟩ := hg
        cases h
        rfl
      · cases h
    · cases h
  inv := inv

structure saC where
  a : Int
  xs : List (List V)
  b : Int
  ys : List (List V)
structure saX where
  i : Int
def saSt (c : saC) (x : saX) : St := ⟨[(2, .ptr 0 0 0), (3, .ptr 1 0 0), (5, .int .i64 x.i)], [(0, ⟨true, true, true, [[.int .i64 c.a, .lst c.xs]], 0⟩), (1, ⟨true, true, true, [[.int .i64 c.b, .lst c.ys]], 0⟩)]⟩
set_option maxHeartbeats 4000000 in
def saUn (s : St) : Option (saC × saX) :=
  match s with
  | ⟨[(q0, .ptr q1 q2 q3), (q4, .ptr q5 q6 q7), (q8, .int .i64 i)], [(q9, ⟨true, true, true, [[.int .i64 a, .lst xs]], q10⟩), (q11, ⟨true, true, true, [[.int .i64 b, .lst ys]], q12⟩)]⟩ => bif Nat.beq q0 2 && Nat.beq q1 0 && Nat.beq q2 0 && Nat.beq q3 0 && Nat.beq q4 3 && Nat.beq q5 1 && Nat.beq q6 0 && Nat.beq q7 0 && Nat.beq q8 5 && Nat.beq q9 0 && Nat.beq q10 0 && Nat.beq q11 1 && Nat.beq q12 0 then some (⟨a, xs, b, ys⟩, ⟨i⟩) else none
  | _ => none
set_option maxHeartbeats 4000000 in
def saL (inv : saC → saX → saX → Nat → Prop) : LoopS where
  C := saC
  X := saX
  st := saSt
  un := saUn
  ok := by
    intro s c x h
    unfold saUn at h
    split at h
    · simp only [Bool.cond_eq_ite] at h
      split at h
      · rename_i hg
        simp only [Bool.and_eq_true, Nat.beq_eq] at hg
        obtain ⟨⟨⟨⟨⟨⟨⟨⟨⟨⟨⟨⟨rfl, rfl⟩, rfl⟩, rfl⟩, rfl⟩, rfl⟩, rfl⟩, rfl⟩, rfl⟩, rfl⟩, rfl⟩, rfl⟩, rfl⟩ := hg
        cases h
        rfl
      · cases h
    · cases h
  inv := inv

structure tfC where
  x0 : Int
  x1 : Int
  x2 : Int
  x3 : List UInt8
  x4 : Int
  x5 : List UInt8
  x6 : List UInt8
  x7 : List UInt8
  x8 : Int
  x9 : Int
  x10 : List UInt8
  y0 : Int
  y1 : Int
  y2 : Int
  y3 : List UInt8
  y4 : Int
  y5 : List UInt8
  y6 : List UInt8
  y7 : List UInt8
  y8 : Int
  y9 : Int
  y10 : List UInt8
  ok : Bool
  is : Bool
  a : Int
  e : Int
  b : Int
  f : Int
  p : List UInt8
  g : Int
  q : List UInt8
  h : Int
  xs : List (List V)
  ys : List (List V)
  cnt : Int
structure tfX where
  i : Int
def tfSt (c : tfC) (x : tfX) : St := ⟨[(7, .ptr 0 0 0), (8, .bool c.ok), (9, .ptr 1 0 0), (10, .bool c.is), (11, .int .i64 c.a), (12, .int .i64 c.e), (13, .int .i64 c.b), (14, .int .i64 c.f), (15, .str c.p), (16, .int .i64 c.g), (17, .str c.q), (18, .int .i64 c.h), (19, .lst c.xs), (20, .lst c.ys), (86, .int .i64 c.cnt), (87, .int .i64 x.i)], [(0, ⟨true, true, true, [[.int .i64 c.x0, .int .i64 c.x1, .int .i64 c.x2, .str c.x3, .int .i64 c.x4, .str c.x5, .str c.x6, .str c.x7, .int .i64 c.x8, .int .i64 c.x9, .str c.x10]], 0⟩), (1, ⟨true, true, true, [[.int .i64 c.y0, .int .i64 c.y1, .int .i64 c.y2, .str c.y3, .int .i64 c.y4, .str c.y5, .str c.y6, .str c.y7, .int .i64 c.y8, .int .i64 c.y9, .str c.y10]], 0⟩)]⟩
set_option maxHeartbeats 4000000 in
def tfUn (s : St) : Option (tfC × tfX) :=
  match s with
  | ⟨[(q0, .ptr q1 q2 q3), (q4, .bool ok), (q5, .ptr q6 q7 q8), (q9, .bool is), (q10, .int .i64 a), (q11, .int .i64 e), (q12, .int .i64 b), (q13, .int .i64 f), (q14, .str p), (q15, .int .i64 g), (q16, .str q), (q17, .int .i64 h), (q18, .lst xs), (q19, .lst ys), (q20, .int .i64 cnt), (q21, .int .i64 i)], [(q22, ⟨true, true, true, [[.int .i64 x0, .int .i64 x1, .int .i64 x2, .str x3, .int .i64 x4, .str x5, .str x6, .str x7, .int .i64 x8, .int .i64 x9, .str x10]], q23⟩), (q24, ⟨true, true, true, [[.int .i64 y0, .int .i64 y1, .int .i64 y2, .str y3, .int .i64 y4, .str y5, .str y6, .str y7, .int .i64 y8, .int .i64 y9, .str y10]], q25⟩)]⟩ => bif Nat.beq q0 7 && Nat.beq q1 0 && Nat.beq q2 0 && Nat.beq q3 0 && Nat.beq q4 8 && Nat.beq q5 9 && Nat.beq q6 1 && Nat.beq q7 0 && Nat.beq q8 0 && Nat.beq q9 10 && Nat.beq q10 11 && Nat.beq q11 12 && Nat.beq q12 13 && Nat.beq q13 14 && Nat.beq q14 15 && Nat.beq q15 16 && Nat.beq q16 17 && Nat.beq q17 18 && Nat.beq q18 19 && Nat.beq q19 20 && Nat.beq q20 86 && Nat.beq q21 87 && Nat.beq q22 0 && Nat.beq q23 0 && Nat.beq q24 1 && Nat.beq q25 0 then some (⟨x0, x1, x2, x3, x4, x5, x6, x7, x8, x9, x10, y0, y1, y2, y3, y4, y5, y6, y7, y8, y9, y10, ok, is, a, e, b, f, p, g, q, h, xs, ys, cnt⟩, ⟨i⟩) else none
  | _ => none
set_option maxHeartbeats 4000000 in
def tfL (inv : tfC → tfX → tfX → Nat → Prop) : LoopS where
  C := tfC
  X := tfX
  st := tfSt
  un := tfUn
  ok := by
    intro s c x h
    unfold tfUn at h
    split at h
    · simp only [Bool.cond_eq_ite] at h
      split at h
      · rename_i hg
        simp only [Bool.and_eq_true, Nat.beq_eq] at hg
        obtain ⟨⟨⟨⟨⟨⟨⟨⟨⟨⟨⟨⟨⟨⟨⟨⟨⟨⟨⟨⟨⟨⟨⟨⟨⟨rfl, rfl⟩, rfl⟩, rfl⟩, rfl⟩, rfl⟩, rfl⟩, rfl⟩, rfl⟩, rfl⟩, rfl⟩, rfl⟩, rfl⟩, rfl⟩, rfl⟩, rfl⟩, rfl⟩, rfl⟩, rfl⟩, rfl⟩, rfl⟩, rfl⟩, rfl⟩, rfl⟩, rfl⟩, rfl⟩ := hg
        cases h
        rfl
      · cases h
    · cases h
  inv := inv

theorem sm_vc (next : Int) (xs : List (List V)) (I : smC → smX → smX → Nat → Prop) (K : V → List Bk → Prop) : vcF Try.prog cfgN (ctOf []) (lpOf [(3, smL I)]) 15 [.agg [.int .i64 next, .lst xs]] [] K = (
  (∃ m4 : Nat, (((m4 : Nat) < 18446744073709551616)) ∧ (
  I (smC.mk next xs (lenL xs)) (smX.mk 0 0) (smX.mk 0 0) m4)) ∧ (
  ∀ x4 : (smL I).X, ∀ m5 : Nat, (I (smC.mk next xs (lenL xs)) (smX.mk 0 0) x4 m5) → (
  br (ltI x4.2 (lenL xs)) (
    need (andB (leI 0 x4.2) (ltI x4.2 (lenL xs))) (
    need (okRow xs x4.2.toNat 11) (
    ∃ n6 : Int, ∃ n7 : Int, ∃ n8 : Int, ∃ s9 : List UInt8, ∃ n10 : Int, ∃ s11 : List UInt8, ∃ s12 : List UInt8, ∃ s13 : List UInt8, ∃ n14 : Int, ∃ n15 : Int, ∃ s16 : List UInt8, ((sub (rowAt xs x4.2) 0 11 : Option (List V)) = some [V.int IntKind.i64 n6, V.int IntKind.i64 n7, V.int IntKind.i64 n8, V.str s9, V.int IntKind.i64 n10, V.str s11, V.str s12, V.str s13, V.int IntKind.i64 n14, V.int IntKind.i64 n15, V.str s16]) ∧ (
    br (leI 100 x4.2) (
      K (V.bool false) []) (
      br (ltI 70000 (lenS s16)) (
        K (V.bool false) []) (
        br (ltI 1000 (lenS s9)) (
          K (V.bool false) []) (
          br (ltI 1000 (lenS s11)) (
            K (V.bool false) []) (
            br (ltI 1000 (lenS s12)) (
              K (V.bool false) []) (
              br (ltI 1000 (lenS s13)) (
                K (V.bool false) []) (
                ((smC.mk next xs (lenL xs) : (smL I).C) = smC.mk next xs (lenL xs)) ∧ (
                ∃ m'17 : Nat, (((m'17 : Nat) < m5)) ∧ (
                I (smC.mk next xs (lenL xs)) (smX.mk 0 0) (smX.mk (addI IntKind.i64 x4.1 (lenS s16)) (addI IntKind.i64 x4.2 1)) m'17)))))))))))) (
    K (V.bool (leI x4.1 200000)) [])))) := by kernel_rfl

theorem sa_vc (a : Int) (xs : List (List V)) (b : Int) (ys : List (List V)) (I : saC → saX → saX → Nat → Prop) (K : V → List Bk → Prop) : vcF Try.prog cfgN (ctOf []) (lpOf [(4, saL I)]) 12 [.agg [.int .i64 a, .lst xs], .agg [.int .i64 b, .lst ys]] [] K = (
  br (notB (eqI a b)) (
    K (V.bool false) []) (
    br (notB (eqI (lenL xs) (lenL ys))) (
      K (V.bool false) []) (
      (∃ m6 : Nat, (((m6 : Nat) < 18446744073709551616)) ∧ (
      I (saC.mk a xs b ys) (saX.mk 0) (saX.mk 0) m6)) ∧ (
      ∀ x6 : (saL I).X, ∀ m7 : Nat, (I (saC.mk a xs b ys) (saX.mk 0) x6 m7) → (
      br (ltI x6.1 (lenL xs)) (
        need (andB (leI 0 x6.1) (ltI x6.1 (lenL xs))) (
        need (okRow xs x6.1.toNat 11) (
        ∃ n8 : Int, ∃ n9 : Int, ∃ n10 : Int, ∃ s11 : List UInt8, ∃ n12 : Int, ∃ s13 : List UInt8, ∃ s14 : List UInt8, ∃ s15 : List UInt8, ∃ n16 : Int, ∃ n17 : Int, ∃ s18 : List UInt8, ((sub (rowAt xs x6.1) 0 11 : Option (List V)) = some [V.int IntKind.i64 n8, V.int IntKind.i64 n9, V.int IntKind.i64 n10, V.str s11, V.int IntKind.i64 n12, V.str s13, V.str s14, V.str s15, V.int IntKind.i64 n16, V.int IntKind.i64 n17, V.str s18]) ∧ (
        need (andB (leI 0 x6.1) (ltI x6.1 (lenL ys))) (
        need (okRow ys x6.1.toNat 11) (
        ∃ n19 : Int, ∃ n20 : Int, ∃ n21 : Int, ∃ s22 : List UInt8, ∃ n23 : Int, ∃ s24 : List UInt8, ∃ s25 : List UInt8, ∃ s26 : List UInt8, ∃ n27 : Int, ∃ n28 : Int, ∃ s29 : List UInt8, ((sub (rowAt ys x6.1) 0 11 : Option (List V)) = some [V.int IntKind.i64 n19, V.int IntKind.i64 n20, V.int IntKind.i64 n21, V.str s22, V.int IntKind.i64 n23, V.str s24, V.str s25, V.str s26, V.int IntKind.i64 n27, V.int IntKind.i64 n28, V.str s29]) ∧ (
        br (!(decide (n8 = n19) && (decide (n9 = n20) && (decide (n10 = n21) && (strEq s11 s22 && (decide (n12 = n23) && (strEq s13 s24 && (strEq s14 s25 && (strEq s15 s26 && (decide (n16 = n27) && (decide (n17 = n28) && (strEq s18 s29 && true)))))))))))) (
          K (V.bool false) []) (
          ((saC.mk a xs b ys : (saL I).C) = saC.mk a xs b ys) ∧ (
          ∃ m'30 : Nat, (((m'30 : Nat) < m7)) ∧ (
          I (saC.mk a xs b ys) (saX.mk 0) (saX.mk (addI IntKind.i64 x6.1 1)) m'30)))))))))) (
        K (V.bool true) [])))))) := by kernel_rfl

theorem lnw_vc (uid : List UInt8) (perm now : Int) (K : V → List Bk → Prop) : vcF Try.prog cfgN (ctOf [(11, okCon), (13, newCon2), (14, newCon2), (12, sameCon)]) (lpOf []) 3 [.str uid, .int .i64 perm, .int .i64 now] [] K = (
  br (ltI 1000 (lenS uid)) (
    K (V.bool true) []) (
    (((-9223372036854775808 : Int) ≤ perm)) ∧ (
    (((perm : Int) ≤ 9223372036854775807)) ∧ (
    ∀ l4 : List Node, (isNew l4 uid perm now) → (
    (((-9223372036854775808 : Int) ≤ perm)) ∧ (
    (((perm : Int) ≤ 9223372036854775807)) ∧ (
    ∀ l5 : List Node, (isNew l5 uid perm now) → (
    ∃ l6 : List Node, ((nodeV l4 : List (List V)) = nodeV l6) ∧ (
    ((nodeV l5 : List (List V)) = nodeV l6) ∧ (
    ((2 : Int) = 2) ∧ (
    (((l6.length : Nat) ≤ 1000000000000000000)) ∧ (
    K (V.bool true) [])))))))))))) := by kernel_rfl

theorem lri_vc (next : Int) (xs : List (List V)) (K : V → List Bk → Prop) : vcF Try.prog cfgN (ctOf [(15, smallCon), (11, okCon), (16, rightCon), (17, rightCon)]) (lpOf []) 4 [.agg [.int .i64 next, .lst xs]] [] K = (
  ∃ l3 : List Node, ((xs : List (List V)) = nodeV l3) ∧ (
  (shortL l3) ∧ (
  br (notB (smallT l3)) (
    K (V.bool true) []) (
    ∃ l4 : List Node, ((xs : List (List V)) = nodeV l4) ∧ (
    (fitL l4) ∧ (
    ∃ l5 : List Node, ((xs : List (List V)) = nodeV l5) ∧ (
    (fitL l5) ∧ (
    br (eqB (rightT next l4) (rightT next l5)) (
      K (V.bool true) []) (
      K (V.bool false) []))))))))) := by kernel_rfl

theorem lre_vc (next : Int) (xs : List (List V)) (s a b : Int) (K : V → List Bk → Prop) : vcF Try.prog cfgN (ctOf [(15, smallCon), (11, okCon), (17, rightCon), (18, readCon), (19, readCon)]) (lpOf []) 5 [.agg [.int .i64 next, .lst xs], .int .i64 s, .agg [.int .i64 a, .int .i64 b]] [] K = (
  ∃ l6 : List Node, ((xs : List (List V)) = nodeV l6) ∧ (
  (shortL l6) ∧ (
  br (notB (smallT l6)) (
    K (V.bool true) []) (
    ∃ l7 : List Node, ((xs : List (List V)) = nodeV l7) ∧ (
    (fitL l7) ∧ (
    br (notB (rightT next l7)) (
      K (V.bool true) []) (
      ∃ l8 : List Node, ((xs : List (List V)) = nodeV l8) ∧ (
      (goodT next l8) ∧ (
      (((a : Int) ≤ 9223372036854775807)) ∧ (
      (((b : Int) ≤ 9223372036854775807)) ∧ (
      ∃ l9 : List Node, ((xs : List (List V)) = nodeV l9) ∧ (
      (goodT next l9) ∧ (
      (((a : Int) ≤ 9223372036854775807)) ∧ (
      (((b : Int) ≤ 9223372036854775807)) ∧ (
      br (eqS (readF l8 s a b).1 (readF l9 s a b).1) (
        br (eqI (readF l8 s a b).2 (readF l9 s a b).2) (
          K (V.bool true) []) (
          K (V.bool false) [])) (
        K (V.bool false) [])))))))))))))))) := by kernel_rfl

theorem lfi_vc (next : Int) (xs : List (List V)) (s : Int) (name : List UInt8) (I : tfC → tfX → tfX → Nat → Prop) (K : V → List Bk → Prop) : vcF Try.prog cfgN (ctOf [(15, smallCon), (11, okCon), (17, rightCon), (26, nodeCon), (21, nodeCon), (25, findCon), (27, findCon), (23, pathCon), (28, pathCon), (29, childrenCon), (30, childrenCon)]) (lpOf [(13, tfL I)]) 8 [.agg [.int .i64 next, .lst xs], .int .i64 s, .str name] [] K = (
  ∃ l6 : List Node, ((xs : List (List V)) = nodeV l6) ∧ (
  (shortL l6) ∧ (
  br (notB (smallT l6)) (
    K (V.bool true) []) (
    br (ltI 1000 (lenS name)) (
      K (V.bool true) []) (
      ∃ l7 : List Node, ((xs : List (List V)) = nodeV l7) ∧ (
      (fitL l7) ∧ (
      br (notB (rightT next l7)) (
        K (V.bool true) []) (
        ∃ l8 : List Node, ((xs : List (List V)) = nodeV l8) ∧ (
        (((l8.length : Nat) ≤ 100000)) ∧ (
        ∃ l9 : List Node, ((xs : List (List V)) = nodeV l9) ∧ (
        (((l9.length : Nat) ≤ 100000)) ∧ (
        ∃ l10 : List Node, ((xs : List (List V)) = nodeV l10) ∧ (
        (goodT next l10) ∧ (
        ∃ l11 : List Node, ((xs : List (List V)) = nodeV l11) ∧ (
        (goodT next l11) ∧ (
        ∃ l12 : List Node, ((xs : List (List V)) = nodeV l12) ∧ (
        (goodT next l12) ∧ (
        ∃ l13 : List Node, ((xs : List (List V)) = nodeV l13) ∧ (
        (goodT next l13) ∧ (
        ∃ l14 : List Node, ((xs : List (List V)) = nodeV l14) ∧ (
        (goodT next l14) ∧ (
        ∃ l15 : List Node, ((xs : List (List V)) = nodeV l15) ∧ (
        (goodT next l15) ∧ (
        br (notB (eqI (lenL (intV (childF l14 s))) (lenL (intV (childF l15 s))))) (
          K (V.bool false) []) (
          (∃ m16 : Nat, (((m16 : Nat) < 18446744073709551616)) ∧ (
          I (tfC.mk (nodeF l8 s).1 (nodeF l8 s).2 (nodeF l8 s).3 (nodeF l8 s).4 (nodeF l8 s).5 (nodeF l8 s).6 (nodeF l8 s).7 (nodeF l8 s).8 (nodeF l8 s).9 (nodeF l8 s).10 (nodeF l8 s).11 (nodeF l9 s).1 (nodeF l9 s).2 (nodeF l9 s).3 (nodeF l9 s).4 (nodeF l9 s).5 (nodeF l9 s).6 (nodeF l9 s).7 (nodeF l9 s).8 (nodeF l9 s).9 (nodeF l9 s).10 (nodeF l9 s).11 (hasB l8 s) (hasB l9 s) (findF l10 s name).1 (findF l10 s name).2 (findF l11 s name).1 (findF l11 s name).2 (pathF l12 s).1 (pathF l12 s).2 (pathF l13 s).1 (pathF l13 s).2 (intV (childF l14 s)) (intV (childF l15 s)) (lenL (intV (childF l14 s)))) (tfX.mk 0) (tfX.mk 0) m16)) ∧ (
          ∀ x16 : (tfL I).X, ∀ m17 : Nat, (I (tfC.mk (nodeF l8 s).1 (nodeF l8 s).2 (nodeF l8 s).3 (nodeF l8 s).4 (nodeF l8 s).5 (nodeF l8 s).6 (nodeF l8 s).7 (nodeF l8 s).8 (nodeF l8 s).9 (nodeF l8 s).10 (nodeF l8 s).11 (nodeF l9 s).1 (nodeF l9 s).2 (nodeF l9 s).3 (nodeF l9 s).4 (nodeF l9 s).5 (nodeF l9 s).6 (nodeF l9 s).7 (nodeF l9 s).8 (nodeF l9 s).9 (nodeF l9 s).10 (nodeF l9 s).11 (hasB l8 s) (hasB l9 s) (findF l10 s name).1 (findF l10 s name).2 (findF l11 s name).1 (findF l11 s name).2 (pathF l12 s).1 (pathF l12 s).2 (pathF l13 s).1 (pathF l13 s).2 (intV (childF l14 s)) (intV (childF l15 s)) (lenL (intV (childF l14 s)))) (tfX.mk 0) x16 m17) → (
          br (ltI x16.1 (lenL (intV (childF l14 s)))) (
            need (andB (leI 0 x16.1) (ltI x16.1 (lenL (intV (childF l14 s))))) (
            need (okRow (intV (childF l14 s)) x16.1.toNat 1) (
            ∃ n18 : Int, ((sub (rowAt (intV (childF l14 s)) x16.1) 0 1 : Option (List V)) = some [V.int IntKind.i64 n18]) ∧ (
            need (andB (leI 0 x16.1) (ltI x16.1 (lenL (intV (childF l15 s))))) (
            need (okRow (intV (childF l15 s)) x16.1.toNat 1) (
            ∃ n19 : Int, ((sub (rowAt (intV (childF l15 s)) x16.1) 0 1 : Option (List V)) = some [V.int IntKind.i64 n19]) ∧ (
            br (notB (eqI n18 n19)) (
              K (V.bool false) []) (
              ((tfC.mk (nodeF l8 s).1 (nodeF l8 s).2 (nodeF l8 s).3 (nodeF l8 s).4 (nodeF l8 s).5 (nodeF l8 s).6 (nodeF l8 s).7 (nodeF l8 s).8 (nodeF l8 s).9 (nodeF l8 s).10 (nodeF l8 s).11 (nodeF l9 s).1 (nodeF l9 s).2 (nodeF l9 s).3 (nodeF l9 s).4 (nodeF l9 s).5 (nodeF l9 s).6 (nodeF l9 s).7 (nodeF l9 s).8 (nodeF l9 s).9 (nodeF l9 s).10 (nodeF l9 s).11 (hasB l8 s) (hasB l9 s) (findF l10 s name).1 (findF l10 s name).2 (findF l11 s name).1 (findF l11 s name).2 (pathF l12 s).1 (pathF l12 s).2 (pathF l13 s).1 (pathF l13 s).2 (intV (childF l14 s)) (intV (childF l15 s)) (lenL (intV (childF l14 s))) : (tfL I).C) = tfC.mk (nodeF l8 s).1 (nodeF l8 s).2 (nodeF l8 s).3 (nodeF l8 s).4 (nodeF l8 s).5 (nodeF l8 s).6 (nodeF l8 s).7 (nodeF l8 s).8 (nodeF l8 s).9 (nodeF l8 s).10 (nodeF l8 s).11 (nodeF l9 s).1 (nodeF l9 s).2 (nodeF l9 s).3 (nodeF l9 s).4 (nodeF l9 s).5 (nodeF l9 s).6 (nodeF l9 s).7 (nodeF l9 s).8 (nodeF l9 s).9 (nodeF l9 s).10 (nodeF l9 s).11 (hasB l8 s) (hasB l9 s) (findF l10 s name).1 (findF l10 s name).2 (findF l11 s name).1 (findF l11 s name).2 (pathF l12 s).1 (pathF l12 s).2 (pathF l13 s).1 (pathF l13 s).2 (intV (childF l14 s)) (intV (childF l15 s)) (lenL (intV (childF l14 s)))) ∧ (
              ∃ m'20 : Nat, (((m'20 : Nat) < m17)) ∧ (
              I (tfC.mk (nodeF l8 s).1 (nodeF l8 s).2 (nodeF l8 s).3 (nodeF l8 s).4 (nodeF l8 s).5 (nodeF l8 s).6 (nodeF l8 s).7 (nodeF l8 s).8 (nodeF l8 s).9 (nodeF l8 s).10 (nodeF l8 s).11 (nodeF l9 s).1 (nodeF l9 s).2 (nodeF l9 s).3 (nodeF l9 s).4 (nodeF l9 s).5 (nodeF l9 s).6 (nodeF l9 s).7 (nodeF l9 s).8 (nodeF l9 s).9 (nodeF l9 s).10 (nodeF l9 s).11 (hasB l8 s) (hasB l9 s) (findF l10 s name).1 (findF l10 s name).2 (findF l11 s name).1 (findF l11 s name).2 (pathF l12 s).1 (pathF l12 s).2 (pathF l13 s).1 (pathF l13 s).2 (intV (childF l14 s)) (intV (childF l15 s)) (lenL (intV (childF l14 s)))) (tfX.mk 0) (tfX.mk (addI IntKind.i64 x16.1 1)) m'20)))))))))) (
            br (decide ((tfC.mk (nodeF l8 s).id (nodeF l8 s).par (nodeF l8 s).vers (nodeF l8 s).name (nodeF l8 s).mode (nodeF l8 s).uid (nodeF l8 s).gid (nodeF l8 s).muid (nodeF l8 s).atime (nodeF l8 s).mtime (nodeF l8 s).data (nodeF l9 s).id (nodeF l9 s).par (nodeF l9 s).vers (nodeF l9 s).name (nodeF l9 s).mode (nodeF l9 s).uid (nodeF l9 s).gid (nodeF l9 s).muid (nodeF l9 s).atime (nodeF l9 s).mtime (nodeF l9 s).data (hasB l8 s) (hasB l9 s) (findF l10 s name).fst (findF l10 s name).snd (findF l11 s name).fst (findF l11 s name).snd (pathF l12 s).fst (pathF l12 s).snd (pathF l13 s).fst (pathF l13 s).snd (intV (childF l14 s)) (intV (childF l15 s)) (lenL (intV (childF l14 s)))).x0 = (tfC.mk (nodeF l8 s).id (nodeF l8 s).par (nodeF l8 s).vers (nodeF l8 s).name (nodeF l8 s).mode (nodeF l8 s).uid (nodeF l8 s).gid (nodeF l8 s).muid (nodeF l8 s).atime (nodeF l8 s).mtime (nodeF l8 s).data (nodeF l9 s).id (nodeF l9 s).par (nodeF l9 s).vers (nodeF l9 s).name (nodeF l9 s).mode (nodeF l9 s).uid (nodeF l9 s).gid (nodeF l9 s).muid (nodeF l9 s).atime (nodeF l9 s).mtime (nodeF l9 s).data (hasB l8 s) (hasB l9 s) (findF l10 s name).fst (findF l10 s name).snd (findF l11 s name).fst (findF l11 s name).snd (pathF l12 s).fst (pathF l12 s).snd (pathF l13 s).fst (pathF l13 s).snd (intV (childF l14 s)) (intV (childF l15 s)) (lenL (intV (childF l14 s)))).y0) && (decide ((tfC.mk (nodeF l8 s).id (nodeF l8 s).par (nodeF l8 s).vers (nodeF l8 s).name (nodeF l8 s).mode (nodeF l8 s).uid (nodeF l8 s).gid (nodeF l8 s).muid (nodeF l8 s).atime (nodeF l8 s).mtime (nodeF l8 s).data (nodeF l9 s).id (nodeF l9 s).par (nodeF l9 s).vers (nodeF l9 s).name (nodeF l9 s).mode (nodeF l9 s).uid (nodeF l9 s).gid (nodeF l9 s).muid (nodeF l9 s).atime (nodeF l9 s).mtime (nodeF l9 s).data (hasB l8 s) (hasB l9 s) (findF l10 s name).fst (findF l10 s name).snd (findF l11 s name).fst (findF l11 s name).snd (pathF l12 s).fst (pathF l12 s).snd (pathF l13 s).fst (pathF l13 s).snd (intV (childF l14 s)) (intV (childF l15 s)) (lenL (intV (childF l14 s)))).x1 = (tfC.mk (nodeF l8 s).id (nodeF l8 s).par (nodeF l8 s).vers (nodeF l8 s).name (nodeF l8 s).mode (nodeF l8 s).uid (nodeF l8 s).gid (nodeF l8 s).muid (nodeF l8 s).atime (nodeF l8 s).mtime (nodeF l8 s).data (nodeF l9 s).id (nodeF l9 s).par (nodeF l9 s).vers (nodeF l9 s).name (nodeF l9 s).mode (nodeF l9 s).uid (nodeF l9 s).gid (nodeF l9 s).muid (nodeF l9 s).atime (nodeF l9 s).mtime (nodeF l9 s).data (hasB l8 s) (hasB l9 s) (findF l10 s name).fst (findF l10 s name).snd (findF l11 s name).fst (findF l11 s name).snd (pathF l12 s).fst (pathF l12 s).snd (pathF l13 s).fst (pathF l13 s).snd (intV (childF l14 s)) (intV (childF l15 s)) (lenL (intV (childF l14 s)))).y1) && (decide ((tfC.mk (nodeF l8 s).id (nodeF l8 s).par (nodeF l8 s).vers (nodeF l8 s).name (nodeF l8 s).mode (nodeF l8 s).uid (nodeF l8 s).gid (nodeF l8 s).muid (nodeF l8 s).atime (nodeF l8 s).mtime (nodeF l8 s).data (nodeF l9 s).id (nodeF l9 s).par (nodeF l9 s).vers (nodeF l9 s).name (nodeF l9 s).mode (nodeF l9 s).uid (nodeF l9 s).gid (nodeF l9 s).muid (nodeF l9 s).atime (nodeF l9 s).mtime (nodeF l9 s).data (hasB l8 s) (hasB l9 s) (findF l10 s name).fst (findF l10 s name).snd (findF l11 s name).fst (findF l11 s name).snd (pathF l12 s).fst (pathF l12 s).snd (pathF l13 s).fst (pathF l13 s).snd (intV (childF l14 s)) (intV (childF l15 s)) (lenL (intV (childF l14 s)))).x2 = (tfC.mk (nodeF l8 s).id (nodeF l8 s).par (nodeF l8 s).vers (nodeF l8 s).name (nodeF l8 s).mode (nodeF l8 s).uid (nodeF l8 s).gid (nodeF l8 s).muid (nodeF l8 s).atime (nodeF l8 s).mtime (nodeF l8 s).data (nodeF l9 s).id (nodeF l9 s).par (nodeF l9 s).vers (nodeF l9 s).name (nodeF l9 s).mode (nodeF l9 s).uid (nodeF l9 s).gid (nodeF l9 s).muid (nodeF l9 s).atime (nodeF l9 s).mtime (nodeF l9 s).data (hasB l8 s) (hasB l9 s) (findF l10 s name).fst (findF l10 s name).snd (findF l11 s name).fst (findF l11 s name).snd (pathF l12 s).fst (pathF l12 s).snd (pathF l13 s).fst (pathF l13 s).snd (intV (childF l14 s)) (intV (childF l15 s)) (lenL (intV (childF l14 s)))).y2) && (strEq (nodeF l8 s).4 (nodeF l9 s).4 && (decide ((tfC.mk (nodeF l8 s).id (nodeF l8 s).par (nodeF l8 s).vers (nodeF l8 s).name (nodeF l8 s).mode (nodeF l8 s).uid (nodeF l8 s).gid (nodeF l8 s).muid (nodeF l8 s).atime (nodeF l8 s).mtime (nodeF l8 s).data (nodeF l9 s).id (nodeF l9 s).par (nodeF l9 s).vers (nodeF l9 s).name (nodeF l9 s).mode (nodeF l9 s).uid (nodeF l9 s).gid (nodeF l9 s).muid (nodeF l9 s).atime (nodeF l9 s).mtime (nodeF l9 s).data (hasB l8 s) (hasB l9 s) (findF l10 s name).fst (findF l10 s name).snd (findF l11 s name).fst (findF l11 s name).snd (pathF l12 s).fst (pathF l12 s).snd (pathF l13 s).fst (pathF l13 s).snd (intV (childF l14 s)) (intV (childF l15 s)) (lenL (intV (childF l14 s)))).x4 = (tfC.mk (nodeF l8 s).id (nodeF l8 s).par (nodeF l8 s).vers (nodeF l8 s).name (nodeF l8 s).mode (nodeF l8 s).uid (nodeF l8 s).gid (nodeF l8 s).muid (nodeF l8 s).atime (nodeF l8 s).mtime (nodeF l8 s).data (nodeF l9 s).id (nodeF l9 s).par (nodeF l9 s).vers (nodeF l9 s).name (nodeF l9 s).mode (nodeF l9 s).uid (nodeF l9 s).gid (nodeF l9 s).muid (nodeF l9 s).atime (nodeF l9 s).mtime (nodeF l9 s).data (hasB l8 s) (hasB l9 s) (findF l10 s name).fst (findF l10 s name).snd (findF l11 s name).fst (findF l11 s name).snd (pathF l12 s).fst (pathF l12 s).snd (pathF l13 s).fst (pathF l13 s).snd (intV (childF l14 s)) (intV (childF l15 s)) (lenL (intV (childF l14 s)))).y4) && (strEq (nodeF l8 s).6 (nodeF l9 s).6 && (strEq (nodeF l8 s).7 (nodeF l9 s).7 && (strEq (nodeF l8 s).8 (nodeF l9 s).8 && (decide ((tfC.mk (nodeF l8 s).id (nodeF l8 s).par (nodeF l8 s).vers (nodeF l8 s).name (nodeF l8 s).mode (nodeF l8 s).uid (nodeF l8 s).gid (nodeF l8 s).muid (nodeF l8 s).atime (nodeF l8 s).mtime (nodeF l8 s).data (nodeF l9 s).id (nodeF l9 s).par (nodeF l9 s).vers (nodeF l9 s).name (nodeF l9 s).mode (nodeF l9 s).uid (nodeF l9 s).gid (nodeF l9 s).muid (nodeF l9 s).atime (nodeF l9 s).mtime (nodeF l9 s).data (hasB l8 s) (hasB l9 s) (findF l10 s name).fst (findF l10 s name).snd (findF l11 s name).fst (findF l11 s name).snd (pathF l12 s).fst (pathF l12 s).snd (pathF l13 s).fst (pathF l13 s).snd (intV (childF l14 s)) (intV (childF l15 s)) (lenL (intV (childF l14 s)))).x8 = (tfC.mk (nodeF l8 s).id (nodeF l8 s).par (nodeF l8 s).vers (nodeF l8 s).name (nodeF l8 s).mode (nodeF l8 s).uid (nodeF l8 s).gid (nodeF l8 s).muid (nodeF l8 s).atime (nodeF l8 s).mtime (nodeF l8 s).data (nodeF l9 s).id (nodeF l9 s).par (nodeF l9 s).vers (nodeF l9 s).name (nodeF l9 s).mode (nodeF l9 s).uid (nodeF l9 s).gid (nodeF l9 s).muid (nodeF l9 s).atime (nodeF l9 s).mtime (nodeF l9 s).data (hasB l8 s) (hasB l9 s) (findF l10 s name).fst (findF l10 s name).snd (findF l11 s name).fst (findF l11 s name).snd (pathF l12 s).fst (pathF l12 s).snd (pathF l13 s).fst (pathF l13 s).snd (intV (childF l14 s)) (intV (childF l15 s)) (lenL (intV (childF l14 s)))).y8) && (decide ((tfC.mk (nodeF l8 s).id (nodeF l8 s).par (nodeF l8 s).vers (nodeF l8 s).name (nodeF l8 s).mode (nodeF l8 s).uid (nodeF l8 s).gid (nodeF l8 s).muid (nodeF l8 s).atime (nodeF l8 s).mtime (nodeF l8 s).data (nodeF l9 s).id (nodeF l9 s).par (nodeF l9 s).vers (nodeF l9 s).name (nodeF l9 s).mode (nodeF l9 s).uid (nodeF l9 s).gid (nodeF l9 s).muid (nodeF l9 s).atime (nodeF l9 s).mtime (nodeF l9 s).data (hasB l8 s) (hasB l9 s) (findF l10 s name).fst (findF l10 s name).snd (findF l11 s name).fst (findF l11 s name).snd (pathF l12 s).fst (pathF l12 s).snd (pathF l13 s).fst (pathF l13 s).snd (intV (childF l14 s)) (intV (childF l15 s)) (lenL (intV (childF l14 s)))).x9 = (tfC.mk (nodeF l8 s).id (nodeF l8 s).par (nodeF l8 s).vers (nodeF l8 s).name (nodeF l8 s).mode (nodeF l8 s).uid (nodeF l8 s).gid (nodeF l8 s).muid (nodeF l8 s).atime (nodeF l8 s).mtime (nodeF l8 s).data (nodeF l9 s).id (nodeF l9 s).par (nodeF l9 s).vers (nodeF l9 s).name (nodeF l9 s).mode (nodeF l9 s).uid (nodeF l9 s).gid (nodeF l9 s).muid (nodeF l9 s).atime (nodeF l9 s).mtime (nodeF l9 s).data (hasB l8 s) (hasB l9 s) (findF l10 s name).fst (findF l10 s name).snd (findF l11 s name).fst (findF l11 s name).snd (pathF l12 s).fst (pathF l12 s).snd (pathF l13 s).fst (pathF l13 s).snd (intV (childF l14 s)) (intV (childF l15 s)) (lenL (intV (childF l14 s)))).y9) && (strEq (nodeF l8 s).11 (nodeF l9 s).11 && true))))))))))) (
              br (eqB (hasB l8 s) (hasB l9 s)) (
                br (eqI (findF l10 s name).1 (findF l11 s name).1) (
                  br (eqI (findF l10 s name).2 (findF l11 s name).2) (
                    br (eqS (pathF l12 s).1 (pathF l13 s).1) (
                      br (eqI (pathF l12 s).2 (pathF l13 s).2) (
                        K (V.bool true) []) (
                        K (V.bool false) [])) (
                      K (V.bool false) [])) (
                    K (V.bool false) [])) (
                  K (V.bool false) [])) (
                K (V.bool false) [])) (
              K (V.bool false) []))))))))))))))))))))))))))))) := by kernel_rfl

end Go.Proofs.Ytepehbbagbfmcaa
namespace Go.Proofs.Ytepehbbagbfmcaa
open Go.RowKit
set_option maxRecDepth 100000
set_option linter.unusedVariables false
set_option linter.unusedSimpArgs false
def Says (f : Nat) (vs : List V) : Prop := ∃ r out, evalF Try.prog cfgN 20 f vs [] = some (r, out) ∧ r = .bool true ∧ out = []
theorem ok_con {n : Nat} (hn : 12 ≤ n) : ConOk (evalF Try.prog cfgN n) 11 okCon := by
  intro vs bs K h
  unfold okCon at h
  split at h
  · exact ⟨_, _, awake_ev hn, h⟩
  · exact h.elim
def smP (l : List Node) (k : Nat) : Prop := k ≤ 100 ∧ ∀ (j : Nat) (x : Node), j < k → l[j]? = some x → x.data.length ≤ 70000 ∧ x.name.length ≤ 1000 ∧ x.uid.length ≤ 1000 ∧ x.gid.length ≤ 1000 ∧ x.muid.length ≤ 1000
def sumF (l : List Node) (k : Nat) : Nat := ((l.take k).map fun x => x.data.length).sum
theorem sumF_succ {l : List Node} {k : Nat} {x : Node} (g : l[k]? = some x) : sumF l (k + 1) = sumF l k + x.data.length := by
  unfold sumF
  rw [List.take_add_one, g]
  simp
theorem small_con {n : Nat} (hn : 1 ≤ n) : ConOk (evalF Try.prog cfgN n) 15 smallCon := by
  intro vs bs K h
  unfold smallCon at h
  split at h
  · rename_i nx xs
    obtain ⟨l, rfl, ⟨hb, hd⟩, hK⟩ := h
    refine run_of (lp := lpOf [(3, smL fun _ _ x m => ∃ k : Nat, x.i = (k : Int) ∧ k + m = l.length ∧ smP l k ∧ x.n = (sumF l k : Int) ∧ sumF l k ≤ 70000 * k)]) (by omega) (fun k hk => noCt_ok _) ?_
    rw [sm_vc]
    simp only [nodeV_lenL]
    have no : smallT l = false → K (.bool false) [] := fun q => by rw [q] at hK; exact hK
    refine ⟨⟨l.length, by omega, 0, rfl, by omega, ⟨by omega, fun j x hj => by omega⟩, by simp [sumF], by simp [sumF]⟩, ?_⟩
    rintro ⟨n, i⟩ m ⟨k, hi, hk, ⟨hk1, hp⟩, hn, hs⟩
    dsimp only at hi hn ⊢
    subst hi hn
    rw [br_iff]
    refine ⟨fun hlt => ?_, fun hge => ?_⟩
    · have hlt : k < l.length := by simp only [br_iff, need_iff, andB_t, andB_f, orB_t, orB_f, notB_t, notB_f, leI_t, leI_f, ltI_t, ltI_f, eqI_t, eqI_f, leN_t, leN_f, eqN_t, eqN_f, eqS_t, eqS_f, eqB_t, eqB_f, catOk_t, leC_t] at hlt; omega
      have gf : l[k]? = some l[k] := List.getElem?_eq_getElem hlt
      generalize l[k] = f at gf
      have rf := nodeV_row gf
      have kf : okRow (nodeV l) (Int.toNat (k : Int)) 11 = true := by simpa using nodeV_ok (l := l) (i := k) hlt
      have nf : andB (leI 0 (k : Int)) (ltI (k : Int) (l.length : Int)) = true := by simp only [br_iff, need_iff, andB_t, andB_f, orB_t, orB_f, notB_t, notB_f, leI_t, leI_f, ltI_t, ltI_f, eqI_t, eqI_f, leN_t, leN_f, eqN_t, eqN_f, eqS_t, eqS_f, eqB_t, eqB_f, catOk_t, leC_t]; omega
      rw [need_iff, need_iff]
      refine ⟨nf, kf, ?_⟩
      try rw [rf]
      repeat apply Exists.intro
      refine ⟨rfl, ?_⟩
      have hdf := hd f (List.mem_of_getElem? gf)
      have bad : ¬ (f.data.length ≤ 70000 ∧ f.name.length ≤ 1000 ∧ f.uid.length ≤ 1000 ∧ f.gid.length ≤ 1000 ∧ f.muid.length ≤ 1000) → K (.bool false) [] := fun q =>
        no (decide_eq_false fun w => q (w.2.1 f (List.mem_of_getElem? gf)))
      refine br_iff.2 ⟨fun g => ?_, fun g0 => br_iff.2 ⟨fun g => ?_, fun g1 => br_iff.2 ⟨fun g => ?_, fun g2 => br_iff.2 ⟨fun g => ?_, fun g3 => br_iff.2 ⟨fun g => ?_, fun g4 => br_iff.2 ⟨fun g => ?_, fun g5 => ?_⟩⟩⟩⟩⟩⟩
      · simp only [br_iff, need_iff, andB_t, andB_f, orB_t, orB_f, notB_t, notB_f, leI_t, leI_f, ltI_t, ltI_f, eqI_t, eqI_f, leN_t, leN_f, eqN_t, eqN_f, eqS_t, eqS_f, eqB_t, eqB_f, catOk_t, leC_t] at g
        exact no (decide_eq_false fun w => by have := w.1; omega)
      · simp only [br_iff, need_iff, andB_t, andB_f, orB_t, orB_f, notB_t, notB_f, leI_t, leI_f, ltI_t, ltI_f, eqI_t, eqI_f, leN_t, leN_f, eqN_t, eqN_f, eqS_t, eqS_f, eqB_t, eqB_f, catOk_t, leC_t, lenS] at g; exact bad fun w => by omega
      · simp only [br_iff, need_iff, andB_t, andB_f, orB_t, orB_f, notB_t, notB_f, leI_t, leI_f, ltI_t, ltI_f, eqI_t, eqI_f, leN_t, leN_f, eqN_t, eqN_f, eqS_t, eqS_f, eqB_t, eqB_f, catOk_t, leC_t, lenS] at g; exact bad fun w => by omega
      · simp only [br_iff, need_iff, andB_t, andB_f, orB_t, orB_f, notB_t, notB_f, leI_t, leI_f, ltI_t, ltI_f, eqI_t, eqI_f, leN_t, leN_f, eqN_t, eqN_f, eqS_t, eqS_f, eqB_t, eqB_f, catOk_t, leC_t, lenS] at g; exact bad fun w => by omega
      · simp only [br_iff, need_iff, andB_t, andB_f, orB_t, orB_f, notB_t, notB_f, leI_t, leI_f, ltI_t, ltI_f, eqI_t, eqI_f, leN_t, leN_f, eqN_t, eqN_f, eqS_t, eqS_f, eqB_t, eqB_f, catOk_t, leC_t, lenS] at g; exact bad fun w => by omega
      · simp only [br_iff, need_iff, andB_t, andB_f, orB_t, orB_f, notB_t, notB_f, leI_t, leI_f, ltI_t, ltI_f, eqI_t, eqI_f, leN_t, leN_f, eqN_t, eqN_f, eqS_t, eqS_f, eqB_t, eqB_f, catOk_t, leC_t, lenS] at g; exact bad fun w => by omega
      · simp only [br_iff, need_iff, andB_t, andB_f, orB_t, orB_f, notB_t, notB_f, leI_t, leI_f, ltI_t, ltI_f, eqI_t, eqI_f, leN_t, leN_f, eqN_t, eqN_f, eqS_t, eqS_f, eqB_t, eqB_f, catOk_t, leC_t, lenS] at g0 g1 g2 g3 g4 g5
        have hss := sumF_succ gf
        refine ⟨by trivial, m - 1, by omega, k + 1, by rw [addI_i64 (by omega) (by omega)]; omega, by omega, ⟨by omega, fun j x hj gx => ?_⟩, by rw [addI_i64 (by simp only [lenS]; omega) (by simp only [lenS]; omega)]; simp only [lenS]; omega, by omega⟩
        rcases Nat.lt_or_ge j k with h1 | h1
        · exact hp j x h1 gx
        · obtain rfl : j = k := by omega
          obtain rfl := Option.some.inj (gf.symm.trans gx)
          exact ⟨by omega, by omega, by omega, by omega, by omega⟩
    · have : k = l.length := by simp only [br_iff, need_iff, andB_t, andB_f, orB_t, orB_f, notB_t, notB_f, leI_t, leI_f, ltI_t, ltI_f, eqI_t, eqI_f, leN_t, leN_f, eqN_t, eqN_f, eqS_t, eqS_f, eqB_t, eqB_f, catOk_t, leC_t] at hge; omega
      subst this
      have e : leI (sumF l l.length : Int) 200000 = smallT l := by
        unfold smallT leI
        rw [decide_eq_decide]
        have e1 : sumF l l.length = (l.map fun x => x.data.length).sum := by simp [sumF]
        rw [← e1]
        constructor
        · intro q
          exact ⟨hk1, fun x hx => by
            obtain ⟨j, hj⟩ := List.mem_iff_getElem?.1 hx
            exact hp j x (List.getElem?_eq_some_iff.1 hj).1 hj, by omega⟩
        · intro q; have := q.2.2; omega
      rw [e]; exact hK
  · exact h.elim
theorem same_con {n : Nat} (hn : 1 ≤ n) : ConOk (evalF Try.prog cfgN n) 12 sameCon := by
  intro vs bs K h
  unfold sameCon at h
  split at h
  · rename_i a xs b ys
    obtain ⟨l, rfl, rfl, rfl, hb, hK⟩ := h
    refine run_of (lp := lpOf [(4, saL fun _ _ x m => ∃ k : Nat, x.i = (k : Int) ∧ k + m = l.length)]) (by omega) (fun k hk => noCt_ok _) ?_
    rw [sa_vc]
    simp only [nodeV_lenL]
    refine br_iff.2 ⟨fun g => absurd g (by simp [notB, eqI]), fun _ => br_iff.2 ⟨fun g => absurd g (by simp [notB, eqI]), fun _ => ?_⟩⟩
    refine ⟨⟨l.length, by omega, 0, rfl, by omega⟩, ?_⟩
    rintro ⟨i⟩ m ⟨k, hi, hk⟩
    dsimp only at hi ⊢
    subst hi
    rw [br_iff]
    refine ⟨fun hlt => ?_, fun hge => hK⟩
    have hlt : k < l.length := by simp only [br_iff, need_iff, andB_t, andB_f, orB_t, orB_f, notB_t, notB_f, leI_t, leI_f, ltI_t, ltI_f, eqI_t, eqI_f, leN_t, leN_f, eqN_t, eqN_f, eqS_t, eqS_f, eqB_t, eqB_f, catOk_t, leC_t] at hlt; omega
    have gf : l[k]? = some l[k] := List.getElem?_eq_getElem hlt
    generalize l[k] = f at gf
    have rf := nodeV_row gf
    have kf : okRow (nodeV l) (Int.toNat (k : Int)) 11 = true := by simpa using nodeV_ok (l := l) (i := k) hlt
    have nf : andB (leI 0 (k : Int)) (ltI (k : Int) (l.length : Int)) = true := by simp only [br_iff, need_iff, andB_t, andB_f, orB_t, orB_f, notB_t, notB_f, leI_t, leI_f, ltI_t, ltI_f, eqI_t, eqI_f, leN_t, leN_f, eqN_t, eqN_f, eqS_t, eqS_f, eqB_t, eqB_f, catOk_t, leC_t]; omega
    rw [need_iff, need_iff]
    refine ⟨nf, kf, ?_⟩
    try rw [rf]
    repeat apply Exists.intro
    refine ⟨rfl, ?_⟩
    rw [need_iff, need_iff]
    refine ⟨nf, kf, ?_⟩
    try rw [rf]
    repeat apply Exists.intro
    refine ⟨rfl, ?_⟩
    refine br_iff.2 ⟨fun g => absurd g (by simp [strEq]), fun _ => ⟨by trivial, m - 1, by omega, k + 1, by rw [addI_i64 (by omega) (by omega)]; omega, by omega⟩⟩
  · exact h.elim
theorem nw2_con {n : Nat} (hn : 2 ≤ n) : ConOk (evalF Try.prog cfgN n) 13 newCon2 := by
  intro vs bs K h
  unfold newCon2 at h
  split at h
  · obtain ⟨h1, h2, hK⟩ := h
    exact nw_con hn _ _ _ ⟨h1, h2, hK _ rfl⟩
  · exact h.elim
theorem rnw2_con {n : Nat} (hn : 2 ≤ n) : ConOk (evalF Try.prog cfgN n) 14 newCon2 := by
  intro vs bs K h
  unfold newCon2 at h
  split at h
  · obtain ⟨h1, h2, hK⟩ := h
    exact rnw_con hn _ _ _ ⟨h1, h2, hK _ rfl⟩
  · exact h.elim
theorem news_says {uid : List UInt8} {perm now : Int} (h1 : -9223372036854775808 ≤ perm) (h2 : perm ≤ 9223372036854775807) : Says 3 [.str uid, .int .i64 perm, .int .i64 now] := by
  refine run_of (lp := lpOf []) (ct := ctOf [(11, okCon), (13, newCon2), (14, newCon2), (12, sameCon)]) (by omega)
    (fun k hk => ctOf_ok (ctOf_cons (ok_con (by omega)) (ctOf_cons (nw2_con (by omega)) (ctOf_cons (rnw2_con (by omega)) (ctOf_cons (same_con (by omega)) (ctOf_nil _)))))) ?_
  rw [lnw_vc]
  have tt : (V.bool true = V.bool true ∧ ([] : List Bk) = []) := ⟨rfl, rfl⟩
  refine br_iff.2 ⟨fun _ => tt, fun _ => ⟨h1, h2, fun l e1 => ⟨h1, h2, fun l2 e2 => ?_⟩⟩⟩
  unfold isNew at e1 e2
  subst e1 e2
  exact ⟨_, rfl, rfl, rfl, by simp [newT], tt⟩
theorem right_says {n : Int} {l : List Node} (hs : shortL l) (hf : fitL l) : Says 4 [.agg [.int .i64 n, .lst (nodeV l)]] := by
  refine run_of (lp := lpOf []) (ct := ctOf [(15, smallCon), (11, okCon), (16, rightCon), (17, rightCon)]) (by omega)
    (fun k hk => ctOf_ok (ctOf_cons (small_con (by omega)) (ctOf_cons (ok_con (by omega)) (ctOf_cons (tr_con (by omega)) (ctOf_cons (rr_con (by omega)) (ctOf_nil _)))))) ?_
  rw [lri_vc]
  have tt : (V.bool true = V.bool true ∧ ([] : List Bk) = []) := ⟨rfl, rfl⟩
  refine ⟨l, rfl, hs, br_iff.2 ⟨fun _ => tt, fun _ => ⟨l, rfl, hf, l, rfl, hf, br_iff.2 ⟨fun _ => tt, fun g => ?_⟩⟩⟩⟩
  simp [eqB] at g
theorem reads_says {n s a b : Int} {l : List Node} (hs : shortL l) (hf : fitL l) (ha : a ≤ 9223372036854775807) (hb : b ≤ 9223372036854775807) : Says 5 [.agg [.int .i64 n, .lst (nodeV l)], .int .i64 s, .agg [.int .i64 a, .int .i64 b]] := by
  refine run_of (lp := lpOf []) (ct := ctOf [(15, smallCon), (11, okCon), (17, rightCon), (18, readCon), (19, readCon)]) (by omega)
    (fun k hk => ctOf_ok (ctOf_cons (small_con (by omega)) (ctOf_cons (ok_con (by omega)) (ctOf_cons (rr_con (by omega)) (ctOf_cons (rd_con (by omega)) (ctOf_cons (rrd_con (by omega)) (ctOf_nil _))))))) ?_
  rw [lre_vc]
  have tt : (V.bool true = V.bool true ∧ ([] : List Bk) = []) := ⟨rfl, rfl⟩
  refine ⟨l, rfl, hs, br_iff.2 ⟨fun _ => tt, fun _ => ⟨l, rfl, hf, br_iff.2 ⟨fun _ => tt, fun g => ?_⟩⟩⟩⟩
  have hg : goodT n l := by simpa [notB, rightT_t] using g
  exact ⟨l, rfl, hg, ha, hb, l, rfl, hg, ha, hb, br_iff.2 ⟨fun _ => br_iff.2 ⟨fun _ => tt, fun g => absurd g (by simp [eqI])⟩, fun g => absurd g (by simp [eqS, strEq])⟩⟩
theorem child_len {l : List Node} {d : Int} : (childF l d).length ≤ l.length := by
  unfold childF
  split
  · unfold kids
    rw [List.length_map]
    refine Nat.le_trans (List.length_filter_le _ _) ?_
    simp
  · simp
theorem finds_says {n s : Int} {name : List UInt8} {l : List Node} (hs : shortL l) (hf : fitL l) : Says 8 [.agg [.int .i64 n, .lst (nodeV l)], .int .i64 s, .str name] := by
  refine run_of (lp := lpOf [(13, tfL fun c _ x m => ∃ k : Nat, x.i = (k : Int) ∧ k + m = (childF l s).length)]) (ct := ctOf [(15, smallCon), (11, okCon), (17, rightCon), (26, nodeCon), (21, nodeCon), (25, findCon), (27, findCon), (23, pathCon), (28, pathCon), (29, childrenCon), (30, childrenCon)]) (by omega)
    (fun k hk => ctOf_ok (ctOf_cons (small_con (by omega)) (ctOf_cons (ok_con (by omega)) (ctOf_cons (rr_con (by omega)) (ctOf_cons (no_con (by omega)) (ctOf_cons (rno_con (by omega)) (ctOf_cons (fd_con (by omega)) (ctOf_cons (rfd_con (by omega)) (ctOf_cons (pa_con (by omega)) (ctOf_cons (rp_con (by omega)) (ctOf_cons (ch_con (by omega)) (ctOf_cons (rc_con (by omega)) (ctOf_nil _))))))))))))) ?_
  rw [lfi_vc]
  have tt : (V.bool true = V.bool true ∧ ([] : List Bk) = []) := ⟨rfl, rfl⟩
  have tu : True ∧ True := ⟨trivial, trivial⟩
  refine ⟨l, rfl, hs, br_iff.2 ⟨fun _ => tt, fun _ => br_iff.2 ⟨fun _ => tt, fun _ => ⟨l, rfl, hf, br_iff.2 ⟨fun _ => tt, fun g => ?_⟩⟩⟩⟩⟩
  have hg : goodT n l := by simpa [notB, rightT_t] using g
  have hb : l.length ≤ 100000 := by have := hg.2.1; omega
  have hc : (childF l s).length ≤ l.length := child_len
  refine ⟨l, rfl, hb, l, rfl, hb, l, rfl, hg, l, rfl, hg, l, rfl, hg, l, rfl, hg, l, rfl, hg, l, rfl, hg, br_iff.2 ⟨fun g => absurd g (by simp [notB, eqI]), fun _ => ?_⟩⟩
  simp only [intV_lenL]
  refine ⟨⟨(childF l s).length, by omega, 0, rfl, by omega⟩, ?_⟩
  rintro ⟨i⟩ m ⟨k, hi, hk⟩
  dsimp only at hi ⊢
  subst hi
  rw [br_iff]
  refine ⟨fun hlt => ?_, fun hge => ?_⟩
  · have hlt : k < (childF l s).length := by simp only [br_iff, need_iff, andB_t, andB_f, orB_t, orB_f, notB_t, notB_f, leI_t, leI_f, ltI_t, ltI_f, eqI_t, eqI_f, leN_t, leN_f, eqN_t, eqN_f, eqS_t, eqS_f, eqB_t, eqB_f, catOk_t, leC_t] at hlt; omega
    generalize childF l s = cs at *
    have gf : cs[k]? = some cs[k] := List.getElem?_eq_getElem hlt
    generalize cs[k] = f at gf
    have rf := intV_row gf
    have kf : okRow (intV cs) (Int.toNat (k : Int)) 1 = true := by simpa using intV_ok (l := cs) (i := k) hlt
    have nf : andB (leI 0 (k : Int)) (ltI (k : Int) (cs.length : Int)) = true := by simp only [br_iff, need_iff, andB_t, andB_f, orB_t, orB_f, notB_t, notB_f, leI_t, leI_f, ltI_t, ltI_f, eqI_t, eqI_f, leN_t, leN_f, eqN_t, eqN_f, eqS_t, eqS_f, eqB_t, eqB_f, catOk_t, leC_t]; omega
    rw [need_iff, need_iff]
    refine ⟨nf, kf, ?_⟩
    try rw [rf]
    repeat apply Exists.intro
    refine ⟨rfl, ?_⟩
    rw [need_iff, need_iff]
    refine ⟨nf, kf, ?_⟩
    try rw [rf]
    repeat apply Exists.intro
    refine ⟨rfl, ?_⟩
    refine br_iff.2 ⟨fun g => absurd g (by simp [notB, eqI]), fun _ => ⟨by trivial, m - 1, by omega, k + 1, by rw [addI_i64 (by omega) (by omega)]; omega, by omega⟩⟩
  · refine br_iff.2 ⟨fun _ => br_iff.2 ⟨fun _ => br_iff.2 ⟨fun _ => br_iff.2 ⟨fun _ => br_iff.2 ⟨fun _ => br_iff.2 ⟨fun _ => tu, ?_⟩, ?_⟩, ?_⟩, ?_⟩, ?_⟩, ?_⟩ <;> intro g <;> exact absurd g (by simp [strEq, eqI, eqS, eqB])
end Go.Proofs.Ytepehbbagbfmcaa
namespace Go.Proofs.Ytepehbbagbfmcaa
open Go.RowKit
set_option maxRecDepth 100000
set_option linter.unusedVariables false
set_option linter.unusedSimpArgs false
def treeSh : Sh := .pair (.int .i64) (.pair (.slice 128 11 nodeSh) .unit)
def newsSh : List Sh := [.str, .int .i64, .int .i64]
def rightSh : List Sh := [treeSh]
def readsSh : List Sh := [treeSh, .int .i64, .rep 2 (.int .i64)]
def findsSh : List Sh := [treeSh, .int .i64, .str]
theorem tree_fits {v : V} (h : FitsA treeSh v) : ∃ (n : Int) (l : List Node), v = .agg [.int .i64 n, .lst (nodeV l)] ∧ n ≤ 9223372036854775807 ∧ shortL l ∧ fitL l ∧ ∀ x ∈ l, x.fit := by
  obtain ⟨vs, rfl, h⟩ := h
  obtain ⟨u1, w1, rfl, ⟨n, rfl, hn⟩, u2, w2, rfl, ⟨xs, rfl, hl, h2⟩, rfl⟩ := h
  obtain ⟨l, rfl, hf⟩ := rows_of Node.v (fun a => a.fit) (fun q hq => Node.fits (h2 q hq).2)
  have hm : IntKind.i64.max = 9223372036854775807 := by decide
  have hd : ∀ x ∈ l, x.mode ≤ 9223372036854775807 ∧ x.name.length ≤ 140737488351232 ∧ x.data.length ≤ 140737488351232 := fun x hx => by
    have := hf x hx
    unfold Node.fit at this
    obtain ⟨h1, h2, h3, h4, h5, h6, h7, h8, h9, h10, h11⟩ := this
    exact ⟨by omega, by omega, by omega⟩
  rw [List.length_map] at hl
  exact ⟨n, l, rfl, by omega, ⟨by omega, fun x hx => by have := (hd x hx).2.2; omega⟩, fun x hx => ⟨(hd x hx).1, by have := (hd x hx).2.1; omega⟩, hf⟩
theorem two_fits {v : V} (h : FitsA (.rep 2 (.int .i64)) v) : ∃ a b : Int, v = .agg [.int .i64 a, .int .i64 b] ∧ a ≤ 9223372036854775807 ∧ b ≤ 9223372036854775807 := by
  obtain ⟨vs, rfl, ps, rfl, hl, h⟩ := h
  have hm : IntKind.i64.max = 9223372036854775807 := by decide
  match ps, hl with
  | [p, q], _ =>
    obtain ⟨a, rfl, _, ha⟩ := h p (by simp)
    obtain ⟨b, rfl, _, hb⟩ := h q (by simp)
    exact ⟨a, b, rfl, by omega, by omega⟩
theorem news_fits {us : List V} (h : FitsAll newsSh us) : Says 3 us := by
  obtain ⟨v0, r0, rfl, h0, v1, r1, rfl, h1, v2, r2, rfl, h2, rfl⟩ := h
  obtain ⟨s, e0, _⟩ := h0
  obtain ⟨a, e1, g1, g2⟩ := h1
  obtain ⟨b, e2, _, _⟩ := h2
  cases e0; cases e1; cases e2
  have hm : IntKind.i64.max = 9223372036854775807 := by decide
  have hn : IntKind.i64.min = -9223372036854775808 := by decide
  exact news_says (by omega) (by omega)
theorem right_fits {us : List V} (h : FitsAll rightSh us) : Says 4 us := by
  obtain ⟨v0, r0, rfl, h0, rfl⟩ := h
  obtain ⟨n, l, rfl, hn, hs, hf, _⟩ := tree_fits h0
  exact right_says hs hf
theorem reads_fits {us : List V} (h : FitsAll readsSh us) : Says 5 us := by
  obtain ⟨v0, r0, rfl, h0, v1, r1, rfl, h1, v2, r2, rfl, h2, rfl⟩ := h
  obtain ⟨n, l, rfl, hn, hs, hf, _⟩ := tree_fits h0
  obtain ⟨s, e1, _, _⟩ := h1
  obtain ⟨a, b, rfl, ha, hb⟩ := two_fits h2
  cases e1
  exact reads_says hs hf ha hb
theorem finds_fits {us : List V} (h : FitsAll findsSh us) : Says 8 us := by
  obtain ⟨v0, r0, rfl, h0, v1, r1, rfl, h1, v2, r2, rfl, h2, rfl⟩ := h
  obtain ⟨n, l, rfl, hn, hs, hf, _⟩ := tree_fits h0
  obtain ⟨s, e1, _, _⟩ := h1
  obtain ⟨q, e2, _⟩ := h2
  cases e1; cases e2
  exact finds_says hs hf
end Go.Proofs.Ytepehbbagbfmcaa
