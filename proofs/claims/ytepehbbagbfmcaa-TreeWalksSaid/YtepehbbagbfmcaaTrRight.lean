/- Trees: conditions of Right, and of the parts of calls. -/
import Derived.Test.YtepehbbagbfmcaaTrFind
namespace Go.Proofs.Ytepehbbagbfmcaa
open Go.RowKit
set_option maxRecDepth 100000
set_option linter.unusedVariables false
set_option linter.unusedSimpArgs false
def touchF (x : Node) (uid : List UInt8) (now : Int) : Node := { x with vers := if x.vers + 1 > 2147483647 then 0 else x.vers + 1, mtime := clockF now, muid := shortF uid }

def withF (l : List Node) (y : Node) : List Node := l.map fun x => if x.id = y.id then y else x

def fileE (l : List Node) (s : Int) : Int := if hasB l s = true then (if dirB (nodeF l s).mode = true then 10 else 0) else 8

def fileI (l : List Node) (s : Int) : Int := if fileE l s = 0 then fidx (idP s) l else 0

def fitF (s : List UInt8) (n : Nat) : List UInt8 := s.take n ++ List.replicate (n - s.length) 0

def cloneCon : Con := fun vs bs K => match vs, bs with
  | [.agg [.int .i64 n, .lst xs]], [] => ∃ l, xs = nodeV l ∧ l.length ≤ 100000 ∧ K (.agg [.int .i64 n, .ref 0 0 l.length l.length]) [⟨true, false, true, nodeV l, 0⟩]
  | _, _ => False

def changeCon : Con := fun vs bs K => match vs, bs with
  | [.agg [.int .i64 n, .ref 0 0 a b], .int .i64 i, .str uid, .int .i64 now], [⟨true, false, true, xs, 0⟩] => ∃ l : List Node, ∃ k : Nat, ∃ x : Node, xs = nodeV l ∧ a = l.length ∧ l.length ≤ 100000 ∧ i = (k : Int) ∧ l[k]? = some x ∧ (0 ≤ x.vers ∧ x.vers ≤ 2147483647) ∧ K (.tup []) [⟨true, false, true, nodeV (l.set k (touchF x uid now)), 0⟩]
  | _, _ => False

def fileCon : Con := treeCon fun l s K => (nodeF l s).mode ≤ 9223372036854775807 ∧ K (.tup [.int .i64 (fileI l s), .int .i64 (fileE l s)])

def rnodeCon : Con := treeCon fun l s K => K (.tup [.agg (nodeF l s).v, .bool (hasB l s)])

def touchCon : Con := fun vs bs K => match vs, bs with
  | [.agg cs, .str uid, .int .i64 now], [] => ∃ x : Node, cs = x.v ∧ (0 ≤ x.vers ∧ x.vers ≤ 2147483647) ∧ K (.agg (touchF x uid now).v) []
  | _, _ => False

def withCon : Con := fun vs bs K => match vs, bs with
  | [.agg [.int .i64 n, .lst xs], .agg cs], [] => ∃ l : List Node, ∃ y : Node, xs = nodeV l ∧ cs = y.v ∧ l.length ≤ 100000 ∧ K (.agg [.int .i64 n, .ref 0 0 l.length l.length]) [⟨true, false, true, nodeV (withF l y), 0⟩]
  | _, _ => False

structure trC where
  next : Int
  xs : List (List V)
  zs : List (List V)
  cnt : Int
structure trX where
  ds : List (List V)
  ns : List (List V)
  i : Int
def trSt (c : trC) (x : trX) : St := ⟨[(1, .ptr 0 0 0), (3, .map 1), (4, .map 2), (25, .lst c.zs), (26, .int .i64 c.cnt), (27, .int .i64 x.i)], [(0, ⟨true, true, true, [[.int .i64 c.next, .lst c.xs]], 0⟩), (1, ⟨true, false, true, x.ds, 0⟩), (2, ⟨true, false, true, x.ns, 0⟩)]⟩
def trUn (s : St) : Option (trC × trX) :=
  match s with
  | ⟨[(q0, .ptr q1 q2 q3), (q4, .map q5), (q6, .map q7), (q8, .lst zs), (q9, .int .i64 cnt), (q10, .int .i64 i)], [(q11, ⟨true, true, true, [[.int .i64 next, .lst xs]], q12⟩), (q13, ⟨true, false, true, ds, q14⟩), (q15, ⟨true, false, true, ns, q16⟩)]⟩ => bif Nat.beq q0 1 && Nat.beq q1 0 && Nat.beq q2 0 && Nat.beq q3 0 && Nat.beq q4 3 && Nat.beq q5 1 && Nat.beq q6 4 && Nat.beq q7 2 && Nat.beq q8 25 && Nat.beq q9 26 && Nat.beq q10 27 && Nat.beq q11 0 && Nat.beq q12 0 && Nat.beq q13 1 && Nat.beq q14 0 && Nat.beq q15 2 && Nat.beq q16 0 then some (⟨next, xs, zs, cnt⟩, ⟨ds, ns, i⟩) else none
  | _ => none
def trL (inv : trC → trX → trX → Nat → Prop) : LoopS where
  C := trC
  X := trX
  st := trSt
  un := trUn
  ok := by
    intro s c x h
    unfold trUn at h
    split at h
    · simp only [Bool.cond_eq_ite] at h
      split at h
      · rename_i hg
        simp only [Bool.and_eq_true, Nat.beq_eq] at hg
        obtain ⟨⟨⟨⟨⟨⟨⟨⟨⟨⟨⟨⟨⟨⟨⟨⟨rfl, rfl⟩, rfl⟩, rfl⟩, rfl⟩, rfl⟩, rfl⟩, rfl⟩, rfl⟩, rfl⟩, rfl⟩, rfl⟩, rfl⟩, rfl⟩, rfl⟩, rfl⟩, rfl⟩ := hg
        cases h
        rfl
      · cases h
    · cases h
  inv := inv

structure roC where
  xs : List (List V)
structure roX where
  i : Int
def roSt (c : roC) (x : roX) : St := ⟨[(3, .lst c.xs), (4, .int .i64 x.i)], []⟩
def roUn (s : St) : Option (roC × roX) :=
  match s with
  | ⟨[(q0, .lst xs), (q1, .int .i64 i)], []⟩ => bif Nat.beq q0 3 && Nat.beq q1 4 then some (⟨xs⟩, ⟨i⟩) else none
  | _ => none
def roL (inv : roC → roX → roX → Nat → Prop) : LoopS where
  C := roC
  X := roX
  st := roSt
  un := roUn
  ok := by
    intro s c x h
    unfold roUn at h
    split at h
    · simp only [Bool.cond_eq_ite] at h
      split at h
      · rename_i hg
        simp only [Bool.and_eq_true, Nat.beq_eq] at hg
        obtain ⟨rfl, rfl⟩ := hg
        cases h
        rfl
      · cases h
    · cases h
  inv := inv

structure rnC where
  xs : List (List V)
  i : Int
structure rnX where
  dir : Bool
  k : Int
def rnSt (c : rnC) (x : rnX) : St := ⟨[(3, .lst c.xs), (4, .int .i64 c.i), (5, .bool x.dir), (6, .int .i64 x.k)], []⟩
def rnUn (s : St) : Option (rnC × rnX) :=
  match s with
  | ⟨[(q0, .lst xs), (q1, .int .i64 i), (q2, .bool dir), (q3, .int .i64 k)], []⟩ => bif Nat.beq q0 3 && Nat.beq q1 4 && Nat.beq q2 5 && Nat.beq q3 6 then some (⟨xs, i⟩, ⟨dir, k⟩) else none
  | _ => none
def rnL (inv : rnC → rnX → rnX → Nat → Prop) : LoopS where
  C := rnC
  X := rnX
  st := rnSt
  un := rnUn
  ok := by
    intro s c x h
    unfold rnUn at h
    split at h
    · simp only [Bool.cond_eq_ite] at h
      split at h
      · rename_i hg
        simp only [Bool.and_eq_true, Nat.beq_eq] at hg
        obtain ⟨⟨⟨rfl, rfl⟩, rfl⟩, rfl⟩ := hg
        cases h
        rfl
      · cases h
    · cases h
  inv := inv

structure wtC where
  next : Int
  xs : List (List V)
  x0 : Int
  x1 : Int
  x2 : Int
  x3 : List UInt8
  x4 : Int
  x5 : List UInt8
  x6 : List UInt8
  x7 : List UInt8
  x8 : Int
  x9 : Int
  x10 : List UInt8
  nx : Int
  z : Int
structure wtX where
  n : Nat
  m : Nat
  ys : List (List V)
  i : Int
def wtSt (c : wtC) (x : wtX) : St := ⟨[(2, .ptr 0 0 0), (3, .ptr 1 0 0), (4, .ptr 2 0 0), (5, .ptr 3 0 0), (6, .int .i64 x.i)], [(0, ⟨true, true, true, [[.int .i64 c.next, .lst c.xs]], 0⟩), (1, ⟨true, true, true, [[.int .i64 c.x0, .int .i64 c.x1, .int .i64 c.x2, .str c.x3, .int .i64 c.x4, .str c.x5, .str c.x6, .str c.x7, .int .i64 c.x8, .int .i64 c.x9, .str c.x10]], 0⟩), (2, ⟨true, true, true, [[.int .i64 c.z, .nils]], 0⟩), (3, ⟨true, true, true, [[.int .i64 c.nx, .ref 4 0 x.n x.m]], 0⟩), (4, ⟨true, false, true, x.ys, 0⟩)]⟩
def wtUn (s : St) : Option (wtC × wtX) :=
  match s with
  | ⟨[(q0, .ptr q1 q2 q3), (q4, .ptr q5 q6 q7), (q8, .ptr q9 q10 q11), (q12, .ptr q13 q14 q15), (q16, .int .i64 i)], [(q17, ⟨true, true, true, [[.int .i64 next, .lst xs]], q18⟩), (q19, ⟨true, true, true, [[.int .i64 x0, .int .i64 x1, .int .i64 x2, .str x3, .int .i64 x4, .str x5, .str x6, .str x7, .int .i64 x8, .int .i64 x9, .str x10]], q20⟩), (q21, ⟨true, true, true, [[.int .i64 z, .nils]], q22⟩), (q23, ⟨true, true, true, [[.int .i64 nx, .ref q24 q25 n m]], q26⟩), (q27, ⟨true, false, true, ys, q28⟩)]⟩ => bif Nat.beq q0 2 && Nat.beq q1 0 && Nat.beq q2 0 && Nat.beq q3 0 && Nat.beq q4 3 && Nat.beq q5 1 && Nat.beq q6 0 && Nat.beq q7 0 && Nat.beq q8 4 && Nat.beq q9 2 && Nat.beq q10 0 && Nat.beq q11 0 && Nat.beq q12 5 && Nat.beq q13 3 && Nat.beq q14 0 && Nat.beq q15 0 && Nat.beq q16 6 && Nat.beq q17 0 && Nat.beq q18 0 && Nat.beq q19 1 && Nat.beq q20 0 && Nat.beq q21 2 && Nat.beq q22 0 && Nat.beq q23 3 && Nat.beq q24 4 && Nat.beq q25 0 && Nat.beq q26 0 && Nat.beq q27 4 && Nat.beq q28 0 then some (⟨next, xs, x0, x1, x2, x3, x4, x5, x6, x7, x8, x9, x10, nx, z⟩, ⟨n, m, ys, i⟩) else none
  | _ => none
def wtL (inv : wtC → wtX → wtX → Nat → Prop) : LoopS where
  C := wtC
  X := wtX
  st := wtSt
  un := wtUn
  ok := by
    intro s c x h
    unfold wtUn at h
    split at h
    · simp only [Bool.cond_eq_ite] at h
      split at h
      · rename_i hg
        simp only [Bool.and_eq_true, Nat.beq_eq] at hg
        obtain ⟨⟨⟨⟨⟨⟨⟨⟨⟨⟨⟨⟨⟨⟨⟨⟨⟨⟨⟨⟨⟨⟨⟨⟨⟨⟨⟨⟨rfl, rfl⟩, rfl⟩, rfl⟩, rfl⟩, rfl⟩, rfl⟩, rfl⟩, rfl⟩, rfl⟩, rfl⟩, rfl⟩, rfl⟩, rfl⟩, rfl⟩, rfl⟩, rfl⟩, rfl⟩, rfl⟩, rfl⟩, rfl⟩, rfl⟩, rfl⟩, rfl⟩, rfl⟩, rfl⟩, rfl⟩, rfl⟩, rfl⟩ := hg
        cases h
        rfl
      · cases h
    · cases h
  inv := inv

def tr_vc_2 (next : Int) (xs : List (List V)) (I : trC → trX → trX → Nat → Prop) (K : V → List Bk → Prop) (x4 : (trL I).X) (n7 : Int) (s9 : List UInt8) (n10 : Int) (n6 : Int) (m5 : Nat) : Prop :=
  (
                            br (ltI 0 x4.3) (
                              need (findOk Try.prog 64 IntKind.i64 (V.agg [V.int IntKind.i64 n7, V.str s9]) x4.2) (
                              need (findNo Try.prog 64 (V.agg [V.int IntKind.i64 n7, V.str s9]) x4.2) (
                              ∃ k19 : V, (keyIs (x4.2 ++ [[V.agg [V.int IntKind.i64 n7, V.str s9], V.int IntKind.i64 0]]) (lenL x4.2) k19) ∧ (
                              (((n10 : Int) ≤ 9223372036854775807)) ∧ (
                              br (dirB n10) (
                                need (findOk Try.prog 3 IntKind.i64 (V.int IntKind.i64 n6) x4.1) (
                                need (findNo Try.prog 3 (V.int IntKind.i64 n6) x4.1) (
                                ((trC.mk next xs xs (lenL xs) : (trL I).C) = trC.mk next xs xs (lenL xs)) ∧ (
                                ∃ m'20 : Nat, (((m'20 : Nat) < m5)) ∧ (
                                I (trC.mk next xs xs (lenL xs)) (trX.mk [] [] 0) (trX.mk (x4.1 ++ [[V.int IntKind.i64 n6, V.int IntKind.i64 (addI IntKind.i64 (findI Try.prog 3 (V.int IntKind.i64 n6) x4.1) 1)]]) (setAt (x4.2 ++ [[V.agg [V.int IntKind.i64 n7, V.str s9], V.int IntKind.i64 0]]) (lenL x4.2) [k19, V.int IntKind.i64 (addI IntKind.i64 (findI Try.prog 64 (V.agg [V.int IntKind.i64 n7, V.str s9]) x4.2) 1)]) (addI IntKind.i64 x4.3 1)) m'20))))) (
                                ((trC.mk next xs xs (lenL xs) : (trL I).C) = trC.mk next xs xs (lenL xs)) ∧ (
                                ∃ m'20 : Nat, (((m'20 : Nat) < m5)) ∧ (
                                I (trC.mk next xs xs (lenL xs)) (trX.mk [] [] 0) (trX.mk x4.1 (setAt (x4.2 ++ [[V.agg [V.int IntKind.i64 n7, V.str s9], V.int IntKind.i64 0]]) (lenL x4.2) [k19, V.int IntKind.i64 (addI IntKind.i64 (findI Try.prog 64 (V.agg [V.int IntKind.i64 n7, V.str s9]) x4.2) 1)]) (addI IntKind.i64 x4.3 1)) m'20)))))))) (
                              (((n10 : Int) ≤ 9223372036854775807)) ∧ (
                              br (dirB n10) (
                                need (findOk Try.prog 3 IntKind.i64 (V.int IntKind.i64 n6) x4.1) (
                                need (findNo Try.prog 3 (V.int IntKind.i64 n6) x4.1) (
                                ((trC.mk next xs xs (lenL xs) : (trL I).C) = trC.mk next xs xs (lenL xs)) ∧ (
                                ∃ m'19 : Nat, (((m'19 : Nat) < m5)) ∧ (
                                I (trC.mk next xs xs (lenL xs)) (trX.mk [] [] 0) (trX.mk (x4.1 ++ [[V.int IntKind.i64 n6, V.int IntKind.i64 (addI IntKind.i64 (findI Try.prog 3 (V.int IntKind.i64 n6) x4.1) 1)]]) x4.2 (addI IntKind.i64 x4.3 1)) m'19))))) (
                                ((trC.mk next xs xs (lenL xs) : (trL I).C) = trC.mk next xs xs (lenL xs)) ∧ (
                                ∃ m'19 : Nat, (((m'19 : Nat) < m5)) ∧ (
                                I (trC.mk next xs xs (lenL xs)) (trX.mk [] [] 0) (trX.mk x4.1 x4.2 (addI IntKind.i64 x4.3 1)) m'19))))))
def tr_vc_1 (next : Int) (xs : List (List V)) (I : trC → trX → trX → Nat → Prop) (K : V → List Bk → Prop) (x4 : (trL I).X) (n6 : Int) (n7 : Int) (s9 : List UInt8) (n10 : Int) (m5 : Nat) : Prop :=
  (
                  br (eqI x4.3 0) (
                    br (notB (eqI n6 1)) (
                      K (V.bool false) []) (
                      br (notB (eqI n7 1)) (
                        K (V.bool false) []) (
                        br (notB (eqS s9 [47])) (
                          K (V.bool false) []) (
                          (((n10 : Int) ≤ 9223372036854775807)) ∧ (
                          br (notB (dirB n10)) (
                            K (V.bool false) []) (tr_vc_2 next xs I K x4 n7 s9 n10 n6 m5)))))) (
                    (((s9.length : Nat) ≤ 9223372036854775807)) ∧ (
                    br (notB (nameB s9)) (
                      K (V.bool false) []) (
                      need (findOk Try.prog 3 IntKind.i64 (V.int IntKind.i64 n7) x4.1) (
                      br (eqI (findI Try.prog 3 (V.int IntKind.i64 n7) x4.1) 0) (
                        K (V.bool false) []) (
                        need (findOk Try.prog 64 IntKind.i64 (V.agg [V.int IntKind.i64 n7, V.str s9]) x4.2) (
                        br (ltI 0 (findI Try.prog 64 (V.agg [V.int IntKind.i64 n7, V.str s9]) x4.2)) (
                          K (V.bool false) []) (tr_vc_2 next xs I K x4 n7 s9 n10 n6 m5))))))))
theorem tr_vc (next : Int) (xs : List (List V)) (I : trC → trX → trX → Nat → Prop) (K : V → List Bk → Prop) : vcF Try.prog cfgN (ctOf [(38, soundCon), (39, intCon dirB), (40, nameCon)]) (lpOf [(5, trL I)]) 16 [.agg [.int .i64 next, .lst xs]] [] K = (
  br (ltI (lenL xs) 1) (
    K (V.bool false) []) (
    br (ltI 1024 (lenL xs)) (
      K (V.bool false) []) (
      br (ltI 1048576 next) (
        K (V.bool false) []) (
        (∃ m4 : Nat, (((m4 : Nat) < 18446744073709551616)) ∧ (
        I (trC.mk next xs xs (lenL xs)) (trX.mk [] [] 0) (trX.mk [] [] 0) m4)) ∧ (
        ∀ x4 : (trL I).X, ∀ m5 : Nat, (I (trC.mk next xs xs (lenL xs)) (trX.mk [] [] 0) x4 m5) → (
        br (ltI x4.3 (lenL xs)) (
          need (andB (leI 0 x4.3) (ltI x4.3 (lenL xs))) (
          need (okRow xs x4.3.toNat 11) (
          ∃ n6 : Int, ∃ n7 : Int, ∃ n8 : Int, ∃ s9 : List UInt8, ∃ n10 : Int, ∃ s11 : List UInt8, ∃ s12 : List UInt8, ∃ s13 : List UInt8, ∃ n14 : Int, ∃ n15 : Int, ∃ s16 : List UInt8, ((sub (rowAt xs x4.3) 0 11 : Option (List V)) = some [V.int IntKind.i64 n6, V.int IntKind.i64 n7, V.int IntKind.i64 n8, V.str s9, V.int IntKind.i64 n10, V.str s11, V.str s12, V.str s13, V.int IntKind.i64 n14, V.int IntKind.i64 n15, V.str s16]) ∧ (
          ∃ x17 : Node, (([V.int IntKind.i64 n6, V.int IntKind.i64 n7, V.int IntKind.i64 n8, V.str s9, V.int IntKind.i64 n10, V.str s11, V.str s12, V.str s13, V.int IntKind.i64 n14, V.int IntKind.i64 n15, V.str s16] : List V) = [V.int IntKind.i64 x17.1, V.int IntKind.i64 x17.2, V.int IntKind.i64 x17.3, V.str x17.4, V.int IntKind.i64 x17.5, V.str x17.6, V.str x17.7, V.str x17.8, V.int IntKind.i64 x17.9, V.int IntKind.i64 x17.10, V.str x17.11]) ∧ (
          (((x17.5 : Int) ≤ 9223372036854775807)) ∧ (
          br (notB (soundB x17)) (
            K (V.bool false) []) (
            br (leI next n6) (
              K (V.bool false) []) (
              br (ltI 0 x4.3) (
                need (andB (leI 0 (subI IntKind.i64 x4.3 1)) (ltI (subI IntKind.i64 x4.3 1) (lenL xs))) (
                need (okRow xs (subI IntKind.i64 x4.3 1).toNat 11) (
                ∃ n18 : Int, ((sub (rowAt xs (subI IntKind.i64 x4.3 1)) 0 1 : Option (List V)) = some [V.int IntKind.i64 n18]) ∧ (
                br (leI n6 n18) (
                  K (V.bool false) []) (tr_vc_1 next xs I K x4 n6 n7 s9 n10 m5))))) (tr_vc_1 next xs I K x4 n6 n7 s9 n10 m5))))))))) (
          K (V.bool true) []))))))) := by kernel_rfl

def rr_vc_1 (next : Int) (xs : List (List V)) (I : roC → roX → roX → Nat → Prop) (J : rnC → rnX → rnX → Nat → Prop) (K : V → List Bk → Prop) (x22 : (roL I).X) (m42 : Nat) (n45 : Int) (x41 : (rnL J).X) : Prop :=
  (
                                          ((rnC.mk xs x22.1 : (rnL J).C) = rnC.mk xs x22.1) ∧ (
                                          ∃ m'50 : Nat, (((m'50 : Nat) < m42)) ∧ (
                                          J (rnC.mk xs x22.1) (rnX.mk false 0) (rnX.mk (isDirB n45) (addI IntKind.i64 x41.2 1)) m'50)))
def rr_vc_2 (next : Int) (xs : List (List V)) (I : roC → roX → roX → Nat → Prop) (J : rnC → rnX → rnX → Nat → Prop) (K : V → List Bk → Prop) (x22 : (roL I).X) (m42 : Nat) (x41 : (rnL J).X) : Prop :=
  (
                                          ((rnC.mk xs x22.1 : (rnL J).C) = rnC.mk xs x22.1) ∧ (
                                          ∃ m'49 : Nat, (((m'49 : Nat) < m42)) ∧ (
                                          J (rnC.mk xs x22.1) (rnX.mk false 0) (rnX.mk false (addI IntKind.i64 x41.2 1)) m'49)))
def rr_vc_3 (next : Int) (xs : List (List V)) (I : roC → roX → roX → Nat → Prop) (J : rnC → rnX → rnX → Nat → Prop) (K : V → List Bk → Prop) (x22 : (roL I).X) (m42 : Nat) (x41 : (rnL J).X) : Prop :=
  (
                                        ((rnC.mk xs x22.1 : (rnL J).C) = rnC.mk xs x22.1) ∧ (
                                        ∃ m'47 : Nat, (((m'47 : Nat) < m42)) ∧ (
                                        J (rnC.mk xs x22.1) (rnX.mk false 0) (rnX.mk true (addI IntKind.i64 x41.2 1)) m'47)))
theorem rr_vc (next : Int) (xs : List (List V)) (I : roC → roX → roX → Nat → Prop) (J : rnC → rnX → rnX → Nat → Prop) (K : V → List Bk → Prop) : vcF Try.prog cfgN (ctOf [(41, soundCon), (43, intCon isDirB), (42, nameCon)]) (lpOf [(7, roL I), (13, rnL J)]) 17 [.agg [.int .i64 next, .lst xs]] [] K = (
  br (ltI (lenL xs) 1) (
    K (V.bool false) []) (
    br (ltI 1024 (lenL xs)) (
      K (V.bool false) []) (
      need (andB true (ltI 0 (lenL xs))) (
      need (okRow xs 0 11) (
      ∃ n5 : Int, ((sub (rowAt xs 0) 0 1 : Option (List V)) = some [V.int IntKind.i64 n5]) ∧ (
      br (notB (eqI n5 1)) (
        K (V.bool false) []) (
        need (andB true (ltI 0 (lenL xs))) (
        need (okRow xs 0 11) (
        ∃ n6 : Int, ((sub (rowAt xs 0) 1 1 : Option (List V)) = some [V.int IntKind.i64 n6]) ∧ (
        br (notB (eqI n6 1)) (
          K (V.bool false) []) (
          need (andB true (ltI 0 (lenL xs))) (
          need (okRow xs 0 11) (
          ∃ s7 : List UInt8, ((sub (rowAt xs 0) 3 1 : Option (List V)) = some [V.str s7]) ∧ (
          br (notB (eqS s7 [47])) (
            K (V.bool false) []) (
            need (andB true (ltI 0 (lenL xs))) (
            need (okRow xs 0 11) (
            ∃ n8 : Int, ((sub (rowAt xs 0) 4 1 : Option (List V)) = some [V.int IntKind.i64 n8]) ∧ (
            br (ltI n8 2147483648) (
              K (V.bool false) []) (
              need (andB true (ltI 0 (lenL xs))) (
              need (okRow xs 0 11) (
              ∃ n9 : Int, ∃ n10 : Int, ∃ n11 : Int, ∃ s12 : List UInt8, ∃ n13 : Int, ∃ s14 : List UInt8, ∃ s15 : List UInt8, ∃ s16 : List UInt8, ∃ n17 : Int, ∃ n18 : Int, ∃ s19 : List UInt8, ((sub (rowAt xs 0) 0 11 : Option (List V)) = some [V.int IntKind.i64 n9, V.int IntKind.i64 n10, V.int IntKind.i64 n11, V.str s12, V.int IntKind.i64 n13, V.str s14, V.str s15, V.str s16, V.int IntKind.i64 n17, V.int IntKind.i64 n18, V.str s19]) ∧ (
              ∃ x20 : Node, (([V.int IntKind.i64 n9, V.int IntKind.i64 n10, V.int IntKind.i64 n11, V.str s12, V.int IntKind.i64 n13, V.str s14, V.str s15, V.str s16, V.int IntKind.i64 n17, V.int IntKind.i64 n18, V.str s19] : List V) = [V.int IntKind.i64 x20.1, V.int IntKind.i64 x20.2, V.int IntKind.i64 x20.3, V.str x20.4, V.int IntKind.i64 x20.5, V.str x20.6, V.str x20.7, V.str x20.8, V.int IntKind.i64 x20.9, V.int IntKind.i64 x20.10, V.str x20.11]) ∧ (
              (((x20.5 : Int) ≤ 9223372036854775807)) ∧ (
              br (notB (soundB x20)) (
                K (V.bool false) []) (
                need (andB (leI 0 (subI IntKind.i64 (lenL xs) 1)) (ltI (subI IntKind.i64 (lenL xs) 1) (lenL xs))) (
                need (okRow xs (subI IntKind.i64 (lenL xs) 1).toNat 11) (
                ∃ n21 : Int, ((sub (rowAt xs (subI IntKind.i64 (lenL xs) 1)) 0 1 : Option (List V)) = some [V.int IntKind.i64 n21]) ∧ (
                br (leI next n21) (
                  K (V.bool false) []) (
                  br (ltI 1048576 next) (
                    K (V.bool false) []) (
                    (∃ m22 : Nat, (((m22 : Nat) < 18446744073709551616)) ∧ (
                    I (roC.mk xs) (roX.mk 1) (roX.mk 1) m22)) ∧ (
                    ∀ x22 : (roL I).X, ∀ m23 : Nat, (I (roC.mk xs) (roX.mk 1) x22 m23) → (
                    br (ltI x22.1 (lenL xs)) (
                      need (andB (leI 0 x22.1) (ltI x22.1 (lenL xs))) (
                      need (okRow xs x22.1.toNat 11) (
                      ∃ n24 : Int, ((sub (rowAt xs x22.1) 0 1 : Option (List V)) = some [V.int IntKind.i64 n24]) ∧ (
                      need (andB (leI 0 (subI IntKind.i64 x22.1 1)) (ltI (subI IntKind.i64 x22.1 1) (lenL xs))) (
                      need (okRow xs (subI IntKind.i64 x22.1 1).toNat 11) (
                      ∃ n25 : Int, ((sub (rowAt xs (subI IntKind.i64 x22.1 1)) 0 1 : Option (List V)) = some [V.int IntKind.i64 n25]) ∧ (
                      br (leI n24 n25) (
                        K (V.bool false) []) (
                        need (andB (leI 0 x22.1) (ltI x22.1 (lenL xs))) (
                        need (okRow xs x22.1.toNat 11) (
                        ∃ n26 : Int, ((sub (rowAt xs x22.1) 1 1 : Option (List V)) = some [V.int IntKind.i64 n26]) ∧ (
                        need (andB (leI 0 x22.1) (ltI x22.1 (lenL xs))) (
                        need (okRow xs x22.1.toNat 11) (
                        ∃ n27 : Int, ((sub (rowAt xs x22.1) 0 1 : Option (List V)) = some [V.int IntKind.i64 n27]) ∧ (
                        br (leI n27 n26) (
                          K (V.bool false) []) (
                          need (andB (leI 0 x22.1) (ltI x22.1 (lenL xs))) (
                          need (okRow xs x22.1.toNat 11) (
                          ∃ s28 : List UInt8, ((sub (rowAt xs x22.1) 3 1 : Option (List V)) = some [V.str s28]) ∧ (
                          (((s28.length : Nat) ≤ 9223372036854775807)) ∧ (
                          br (notB (nameB s28)) (
                            K (V.bool false) []) (
                            need (andB (leI 0 x22.1) (ltI x22.1 (lenL xs))) (
                            need (okRow xs x22.1.toNat 11) (
                            ∃ n29 : Int, ∃ n30 : Int, ∃ n31 : Int, ∃ s32 : List UInt8, ∃ n33 : Int, ∃ s34 : List UInt8, ∃ s35 : List UInt8, ∃ s36 : List UInt8, ∃ n37 : Int, ∃ n38 : Int, ∃ s39 : List UInt8, ((sub (rowAt xs x22.1) 0 11 : Option (List V)) = some [V.int IntKind.i64 n29, V.int IntKind.i64 n30, V.int IntKind.i64 n31, V.str s32, V.int IntKind.i64 n33, V.str s34, V.str s35, V.str s36, V.int IntKind.i64 n37, V.int IntKind.i64 n38, V.str s39]) ∧ (
                            ∃ x40 : Node, (([V.int IntKind.i64 n29, V.int IntKind.i64 n30, V.int IntKind.i64 n31, V.str s32, V.int IntKind.i64 n33, V.str s34, V.str s35, V.str s36, V.int IntKind.i64 n37, V.int IntKind.i64 n38, V.str s39] : List V) = [V.int IntKind.i64 x40.1, V.int IntKind.i64 x40.2, V.int IntKind.i64 x40.3, V.str x40.4, V.int IntKind.i64 x40.5, V.str x40.6, V.str x40.7, V.str x40.8, V.int IntKind.i64 x40.9, V.int IntKind.i64 x40.10, V.str x40.11]) ∧ (
                            (((x40.5 : Int) ≤ 9223372036854775807)) ∧ (
                            br (notB (soundB x40)) (
                              K (V.bool false) []) (
                              (∃ m41 : Nat, (((m41 : Nat) < 18446744073709551616)) ∧ (
                              J (rnC.mk xs x22.1) (rnX.mk false 0) (rnX.mk false 0) m41)) ∧ (
                              ∀ x41 : (rnL J).X, ∀ m42 : Nat, (J (rnC.mk xs x22.1) (rnX.mk false 0) x41 m42) → (
                              br (ltI x41.2 x22.1) (
                                br (x41.1) (
                                  br (ltI 0 x41.2) (
                                    need (andB (leI 0 x41.2) (ltI x41.2 (lenL xs))) (
                                    need (okRow xs x41.2.toNat 11) (
                                    ∃ n43 : Int, ((sub (rowAt xs x41.2) 1 1 : Option (List V)) = some [V.int IntKind.i64 n43]) ∧ (
                                    need (andB (leI 0 x22.1) (ltI x22.1 (lenL xs))) (
                                    need (okRow xs x22.1.toNat 11) (
                                    ∃ n44 : Int, ((sub (rowAt xs x22.1) 1 1 : Option (List V)) = some [V.int IntKind.i64 n44]) ∧ (
                                    br (eqI n43 n44) (
                                      need (andB (leI 0 x41.2) (ltI x41.2 (lenL xs))) (
                                      need (okRow xs x41.2.toNat 11) (
                                      ∃ s45 : List UInt8, ((sub (rowAt xs x41.2) 3 1 : Option (List V)) = some [V.str s45]) ∧ (
                                      need (andB (leI 0 x22.1) (ltI x22.1 (lenL xs))) (
                                      need (okRow xs x22.1.toNat 11) (
                                      ∃ s46 : List UInt8, ((sub (rowAt xs x22.1) 3 1 : Option (List V)) = some [V.str s46]) ∧ (
                                      br (eqS s45 s46) (
                                        K (V.bool false) []) (rr_vc_3 next xs I J K x22 m42 x41)))))))) (rr_vc_3 next xs I J K x22 m42 x41)))))))) (rr_vc_3 next xs I J K x22 m42 x41)) (
                                  need (andB (leI 0 x41.2) (ltI x41.2 (lenL xs))) (
                                  need (okRow xs x41.2.toNat 11) (
                                  ∃ n43 : Int, ((sub (rowAt xs x41.2) 0 1 : Option (List V)) = some [V.int IntKind.i64 n43]) ∧ (
                                  need (andB (leI 0 x22.1) (ltI x22.1 (lenL xs))) (
                                  need (okRow xs x22.1.toNat 11) (
                                  ∃ n44 : Int, ((sub (rowAt xs x22.1) 1 1 : Option (List V)) = some [V.int IntKind.i64 n44]) ∧ (
                                  br (eqI n43 n44) (
                                    need (andB (leI 0 x41.2) (ltI x41.2 (lenL xs))) (
                                    need (okRow xs x41.2.toNat 11) (
                                    ∃ n45 : Int, ((sub (rowAt xs x41.2) 4 1 : Option (List V)) = some [V.int IntKind.i64 n45]) ∧ (
                                    (((n45 : Int) ≤ 9223372036854775807)) ∧ (
                                    br (ltI 0 x41.2) (
                                      need (andB (leI 0 x41.2) (ltI x41.2 (lenL xs))) (
                                      need (okRow xs x41.2.toNat 11) (
                                      ∃ n46 : Int, ((sub (rowAt xs x41.2) 1 1 : Option (List V)) = some [V.int IntKind.i64 n46]) ∧ (
                                      need (andB (leI 0 x22.1) (ltI x22.1 (lenL xs))) (
                                      need (okRow xs x22.1.toNat 11) (
                                      ∃ n47 : Int, ((sub (rowAt xs x22.1) 1 1 : Option (List V)) = some [V.int IntKind.i64 n47]) ∧ (
                                      br (eqI n46 n47) (
                                        need (andB (leI 0 x41.2) (ltI x41.2 (lenL xs))) (
                                        need (okRow xs x41.2.toNat 11) (
                                        ∃ s48 : List UInt8, ((sub (rowAt xs x41.2) 3 1 : Option (List V)) = some [V.str s48]) ∧ (
                                        need (andB (leI 0 x22.1) (ltI x22.1 (lenL xs))) (
                                        need (okRow xs x22.1.toNat 11) (
                                        ∃ s49 : List UInt8, ((sub (rowAt xs x22.1) 3 1 : Option (List V)) = some [V.str s49]) ∧ (
                                        br (eqS s48 s49) (
                                          K (V.bool false) []) (rr_vc_1 next xs I J K x22 m42 n45 x41)))))))) (rr_vc_1 next xs I J K x22 m42 n45 x41)))))))) (rr_vc_1 next xs I J K x22 m42 n45 x41)))))) (
                                    br (ltI 0 x41.2) (
                                      need (andB (leI 0 x41.2) (ltI x41.2 (lenL xs))) (
                                      need (okRow xs x41.2.toNat 11) (
                                      ∃ n45 : Int, ((sub (rowAt xs x41.2) 1 1 : Option (List V)) = some [V.int IntKind.i64 n45]) ∧ (
                                      need (andB (leI 0 x22.1) (ltI x22.1 (lenL xs))) (
                                      need (okRow xs x22.1.toNat 11) (
                                      ∃ n46 : Int, ((sub (rowAt xs x22.1) 1 1 : Option (List V)) = some [V.int IntKind.i64 n46]) ∧ (
                                      br (eqI n45 n46) (
                                        need (andB (leI 0 x41.2) (ltI x41.2 (lenL xs))) (
                                        need (okRow xs x41.2.toNat 11) (
                                        ∃ s47 : List UInt8, ((sub (rowAt xs x41.2) 3 1 : Option (List V)) = some [V.str s47]) ∧ (
                                        need (andB (leI 0 x22.1) (ltI x22.1 (lenL xs))) (
                                        need (okRow xs x22.1.toNat 11) (
                                        ∃ s48 : List UInt8, ((sub (rowAt xs x22.1) 3 1 : Option (List V)) = some [V.str s48]) ∧ (
                                        br (eqS s47 s48) (
                                          K (V.bool false) []) (rr_vc_2 next xs I J K x22 m42 x41)))))))) (rr_vc_2 next xs I J K x22 m42 x41)))))))) (rr_vc_2 next xs I J K x22 m42 x41)))))))))) (
                                br (notB x41.1) (
                                  K (V.bool false) []) (
                                  ((roC.mk xs : (roL I).C) = roC.mk xs) ∧ (
                                  ∃ m'43 : Nat, (((m'43 : Nat) < m23)) ∧ (
                                  I (roC.mk xs) (roX.mk 1) (roX.mk (addI IntKind.i64 x22.1 1)) m'43)))))))))))))))))))))))))))))))) (
                      K (V.bool true) []))))))))))))))))))))))))))))))))) := by kernel_rfl

theorem cl_vc (next : Int) (xs : List (List V)) (K : V → List Bk → Prop) : vcF Try.prog cfgN (ctOf []) (lpOf []) 47 [.agg [.int .i64 next, .lst xs]] [] K = (
  need (andB true (leI (lenL xs) (lenL xs))) (
  need (leN ((lenL xs).toNat * 128) 140737488355328) (
  need (leN (lenL xs).toNat 140737488355328) (
  need (headOkP 11 xs) (
  need (headOkP 11 (List.replicate (lenL xs).toNat [V.int IntKind.i64 0, V.int IntKind.i64 0, V.int IntKind.i64 0, V.str [], V.int IntKind.i64 0, V.str [], V.str [], V.str [], V.int IntKind.i64 0, V.int IntKind.i64 0, V.str []])) (
  K (V.agg [V.int IntKind.i64 next, V.ref 0 0 (lenL xs).toNat (lenL xs).toNat]) [Bk.mk true false true ([] ++ List.take (minN xs.length (lenL xs).toNat) xs ++ List.drop (0 + minN xs.length (lenL xs).toNat) (List.replicate (lenL xs).toNat [V.int IntKind.i64 0, V.int IntKind.i64 0, V.int IntKind.i64 0, V.str [], V.int IntKind.i64 0, V.str [], V.str [], V.str [], V.int IntKind.i64 0, V.int IntKind.i64 0, V.str []])) 0])))))) := by kernel_rfl

theorem cg_vc (next : Int) (xs : List (List V)) (a b : Nat) (i : Int) (uid : List UInt8) (now : Int) (K : V → List Bk → Prop) : vcF Try.prog cfgN (ctOf [(35, clockCon), (34, shortCon)]) (lpOf []) 50 [.agg [.int .i64 next, .ref 0 0 a b], .int .i64 i, .str uid, .int .i64 now] [⟨true, false, true, xs, 0⟩] K = (
  need (andB (leI 0 i) (ltI i (Int.ofNat a))) (
  need (okRow xs (0 + i.toNat) 11) (
  ∃ n8 : Int, ((partAt xs (0 + i.toNat) 2 1 : Option (List V)) = some [V.int IntKind.i64 n8]) ∧ (
  ∃ xs9 : List (List V), ((putAt xs (0 + i.toNat) 2 [V.int IntKind.i64 (addI IntKind.i64 n8 1)] : Option (List (List V))) = some xs9) ∧ (
  ∃ n10 : Int, ((partAt xs9 (0 + i.toNat) 2 1 : Option (List V)) = some [V.int IntKind.i64 n10]) ∧ (
  br (ltI 2147483647 n10) (
    ∃ xs11 : List (List V), ((putAt xs9 (0 + i.toNat) 2 [V.int IntKind.i64 0] : Option (List (List V))) = some xs11) ∧ (
    ∃ xs12 : List (List V), ((putAt xs11 (0 + i.toNat) 9 [V.int IntKind.i64 (clockF now)] : Option (List (List V))) = some xs12) ∧ (
    ∃ xs13 : List (List V), ((putAt xs12 (0 + i.toNat) 7 [V.str (shortF uid)] : Option (List (List V))) = some xs13) ∧ (
    K (V.tup []) [Bk.mk true false true xs13 0])))) (
    ∃ xs11 : List (List V), ((putAt xs9 (0 + i.toNat) 9 [V.int IntKind.i64 (clockF now)] : Option (List (List V))) = some xs11) ∧ (
    ∃ xs12 : List (List V), ((putAt xs11 (0 + i.toNat) 7 [V.str (shortF uid)] : Option (List (List V))) = some xs12) ∧ (
    K (V.tup []) [Bk.mk true false true xs12 0]))))))))) := by kernel_rfl

theorem fl_vc (next : Int) (xs : List (List V)) (s : Int) (K : V → List Bk → Prop) : vcF Try.prog cfgN (ctOf [(53, indexCon), (39, intCon dirB)]) (lpOf []) 44 [.agg [.int .i64 next, .lst xs], .int .i64 s] [] K = (
  ∃ l4 : List Node, ((xs : List (List V)) = nodeV l4) ∧ (
  (((l4.length : Nat) ≤ 100000)) ∧ (
  br (ltI (fidx (idP s) l4) 0) (
    K (V.tup [V.int IntKind.i64 0, V.int IntKind.i64 8]) []) (
    need (andB (leI 0 (fidx (idP s) l4)) (ltI (fidx (idP s) l4) (lenL xs))) (
    need (okRow xs (fidx (idP s) l4).toNat 11) (
    ∃ n5 : Int, ((sub (rowAt xs (fidx (idP s) l4)) 4 1 : Option (List V)) = some [V.int IntKind.i64 n5]) ∧ (
    (((n5 : Int) ≤ 9223372036854775807)) ∧ (
    br (dirB n5) (
      K (V.tup [V.int IntKind.i64 0, V.int IntKind.i64 10]) []) (
      K (V.tup [V.int IntKind.i64 (fidx (idP s) l4), V.int IntKind.i64 0]) []))))))))) := by kernel_rfl

theorem rfl_vc (next : Int) (xs : List (List V)) (s : Int) (K : V → List Bk → Prop) : vcF Try.prog cfgN (ctOf [(21, nodeCon), (43, intCon isDirB)]) (lpOf []) 45 [.agg [.int .i64 next, .lst xs], .int .i64 s] [] K = (
  ∃ l4 : List Node, ((xs : List (List V)) = nodeV l4) ∧ (
  (((l4.length : Nat) ≤ 100000)) ∧ (
  br (notB (hasB l4 s)) (
    K (V.tup [V.agg [V.int IntKind.i64 (nodeF l4 s).1, V.int IntKind.i64 (nodeF l4 s).2, V.int IntKind.i64 (nodeF l4 s).3, V.str (nodeF l4 s).4, V.int IntKind.i64 (nodeF l4 s).5, V.str (nodeF l4 s).6, V.str (nodeF l4 s).7, V.str (nodeF l4 s).8, V.int IntKind.i64 (nodeF l4 s).9, V.int IntKind.i64 (nodeF l4 s).10, V.str (nodeF l4 s).11], V.int IntKind.i64 8]) []) (
    ((((nodeF l4 s).5 : Int) ≤ 9223372036854775807)) ∧ (
    br (isDirB (nodeF l4 s).5) (
      K (V.tup [V.agg [V.int IntKind.i64 (nodeF l4 s).1, V.int IntKind.i64 (nodeF l4 s).2, V.int IntKind.i64 (nodeF l4 s).3, V.str (nodeF l4 s).4, V.int IntKind.i64 (nodeF l4 s).5, V.str (nodeF l4 s).6, V.str (nodeF l4 s).7, V.str (nodeF l4 s).8, V.int IntKind.i64 (nodeF l4 s).9, V.int IntKind.i64 (nodeF l4 s).10, V.str (nodeF l4 s).11], V.int IntKind.i64 10]) []) (
      K (V.tup [V.agg [V.int IntKind.i64 (nodeF l4 s).1, V.int IntKind.i64 (nodeF l4 s).2, V.int IntKind.i64 (nodeF l4 s).3, V.str (nodeF l4 s).4, V.int IntKind.i64 (nodeF l4 s).5, V.str (nodeF l4 s).6, V.str (nodeF l4 s).7, V.str (nodeF l4 s).8, V.int IntKind.i64 (nodeF l4 s).9, V.int IntKind.i64 (nodeF l4 s).10, V.str (nodeF l4 s).11], V.int IntKind.i64 0]) [])))))) := by kernel_rfl

theorem ft_vc (s : List UInt8) (n : Int) (K : V → List Bk → Prop) : vcF Try.prog cfgN (ctOf []) (lpOf []) 49 [.str s, .int .i64 n] [] K = (
  br (leI n (lenS s)) (
    need (andB (leI 0 n) (leI n (lenS s))) (
    K (V.str (cutS s 0 n)) [])) (
    need (andB (andB (leI 0 (subI IntKind.i64 n (lenS s))) (leI (subI IntKind.i64 n (lenS s)) 9223372036854775807)) (leN (1 * (subI IntKind.i64 n (lenS s)).toNat) 140737488355328)) (
    need (catOk s (Lib.repeatL (ByteArray.mk #[0]).data.toList (subI IntKind.i64 n (lenS s)).toNat)) (
    K (V.str (catS s (Lib.repeatL (ByteArray.mk #[0]).data.toList (subI IntKind.i64 n (lenS s)).toNat))) [])))) := by kernel_rfl

theorem ze_vc (n : Int) (K : V → List Bk → Prop) : vcF Try.prog cfgN (ctOf []) (lpOf []) 71 [.int .i64 n] [] K = (
  need (andB (leI 0 (maxI n 0)) (leI (maxI n 0) (maxI n 0))) (
  need (leN ((maxI n 0).toNat * 1) 140737488355328) (
  need (leN (maxI n 0).toNat 140737488355328) (
  need (okBytes (List.take (maxI n 0).toNat (List.drop 0 (List.replicate (maxI n 0).toNat [V.int IntKind.u8 0])))) (
  K (V.str (bytesOf (List.take (maxI n 0).toNat (List.drop 0 (List.replicate (maxI n 0).toNat [V.int IntKind.u8 0]))))) []))))) := by kernel_rfl

theorem to_vc (x : Node) (uid : List UInt8) (now : Int) (K : V → List Bk → Prop) : vcF Try.prog cfgN (ctOf [(37, clockCon), (36, shortCon)]) (lpOf []) 73 [.agg x.v, .str uid, .int .i64 now] [] K = (
  K (V.agg [V.int IntKind.i64 x.1, V.int IntKind.i64 x.2, V.int IntKind.i64 ((addI IntKind.i64 x.3 1).tmod 2147483648), V.str x.4, V.int IntKind.i64 x.5, V.str x.6, V.str x.7, V.str (shortF uid), V.int IntKind.i64 x.9, V.int IntKind.i64 (clockF now), V.str x.11]) []) := by kernel_rfl

theorem wt_vc (next : Int) (xs : List (List V)) (y : Node) (I : wtC → wtX → wtX → Nat → Prop) (K : V → List Bk → Prop) : vcF Try.prog cfgN (ctOf []) (lpOf [(3, wtL I)]) 72 [.agg [.int .i64 next, .lst xs], .agg y.v] [] K = (
  (∃ m5 : Nat, (((m5 : Nat) < 18446744073709551616)) ∧ (
  I (wtC.mk next xs y.1 y.2 y.3 y.4 y.5 y.6 y.7 y.8 y.9 y.10 y.11 next 0) (wtX.mk 0 0 [] 0) (wtX.mk 0 0 [] 0) m5)) ∧ (
  ∀ x5 : (wtL I).X, ∀ m6 : Nat, (I (wtC.mk next xs y.1 y.2 y.3 y.4 y.5 y.6 y.7 y.8 y.9 y.10 y.11 next 0) (wtX.mk 0 0 [] 0) x5 m6) → (
  br (ltI x5.4 (lenL xs)) (
    need (andB (leI 0 x5.4) (ltI x5.4 (lenL xs))) (
    need (okRow xs x5.4.toNat 11) (
    ∃ n7 : Int, ((sub (rowAt xs x5.4) 0 1 : Option (List V)) = some [V.int IntKind.i64 n7]) ∧ (
    br (eqI n7 y.1) (
      need (headOkP 11 x5.3) (
      br (leN (x5.1 + 1) x5.2) (
        ((wtC.mk next xs y.1 y.2 y.3 y.4 y.5 y.6 y.7 y.8 y.9 y.10 y.11 next (Int.ofNat 0) : (wtL I).C) = wtC.mk next xs y.1 y.2 y.3 y.4 y.5 y.6 y.7 y.8 y.9 y.10 y.11 next 0) ∧ (
        ∃ m'8 : Nat, (((m'8 : Nat) < m6)) ∧ (
        I (wtC.mk next xs y.1 y.2 y.3 y.4 y.5 y.6 y.7 y.8 y.9 y.10 y.11 next 0) (wtX.mk 0 0 [] 0) (wtX.mk (x5.1 + 1) x5.2 (List.take (0 + x5.1) x5.3 ++ [[V.int IntKind.i64 y.1, V.int IntKind.i64 y.2, V.int IntKind.i64 y.3, V.str y.4, V.int IntKind.i64 y.5, V.str y.6, V.str y.7, V.str y.8, V.int IntKind.i64 y.9, V.int IntKind.i64 y.10, V.str y.11]] ++ List.drop (0 + x5.1 + 1) x5.3) (addI IntKind.i64 x5.4 1)) m'8))) (
        need (eqN (0 + x5.1) x5.3.length) (
        need (leN ((x5.1 + 1) * 128) 140737488355328) (
        ((wtC.mk next xs y.1 y.2 y.3 y.4 y.5 y.6 y.7 y.8 y.9 y.10 y.11 next (Int.ofNat 0) : (wtL I).C) = wtC.mk next xs y.1 y.2 y.3 y.4 y.5 y.6 y.7 y.8 y.9 y.10 y.11 next 0) ∧ (
        ∃ m'8 : Nat, (((m'8 : Nat) < m6)) ∧ (
        I (wtC.mk next xs y.1 y.2 y.3 y.4 y.5 y.6 y.7 y.8 y.9 y.10 y.11 next 0) (wtX.mk 0 0 [] 0) (wtX.mk (x5.1 + 1) (x5.1 + 1) (List.drop 0 x5.3 ++ [[V.int IntKind.i64 y.1, V.int IntKind.i64 y.2, V.int IntKind.i64 y.3, V.str y.4, V.int IntKind.i64 y.5, V.str y.6, V.str y.7, V.str y.8, V.int IntKind.i64 y.9, V.int IntKind.i64 y.10, V.str y.11]]) (addI IntKind.i64 x5.4 1)) m'8))))))) (
      need (andB (leI 0 x5.4) (ltI x5.4 (lenL xs))) (
      need (okRow xs x5.4.toNat 11) (
      ∃ n8 : Int, ∃ n9 : Int, ∃ n10 : Int, ∃ s11 : List UInt8, ∃ n12 : Int, ∃ s13 : List UInt8, ∃ s14 : List UInt8, ∃ s15 : List UInt8, ∃ n16 : Int, ∃ n17 : Int, ∃ s18 : List UInt8, ((sub (rowAt xs x5.4) 0 11 : Option (List V)) = some [V.int IntKind.i64 n8, V.int IntKind.i64 n9, V.int IntKind.i64 n10, V.str s11, V.int IntKind.i64 n12, V.str s13, V.str s14, V.str s15, V.int IntKind.i64 n16, V.int IntKind.i64 n17, V.str s18]) ∧ (
      need (headOkP 11 x5.3) (
      br (leN (x5.1 + 1) x5.2) (
        ((wtC.mk next xs y.1 y.2 y.3 y.4 y.5 y.6 y.7 y.8 y.9 y.10 y.11 next (Int.ofNat 0) : (wtL I).C) = wtC.mk next xs y.1 y.2 y.3 y.4 y.5 y.6 y.7 y.8 y.9 y.10 y.11 next 0) ∧ (
        ∃ m'19 : Nat, (((m'19 : Nat) < m6)) ∧ (
        I (wtC.mk next xs y.1 y.2 y.3 y.4 y.5 y.6 y.7 y.8 y.9 y.10 y.11 next 0) (wtX.mk 0 0 [] 0) (wtX.mk (x5.1 + 1) x5.2 (List.take (0 + x5.1) x5.3 ++ [[V.int IntKind.i64 n8, V.int IntKind.i64 n9, V.int IntKind.i64 n10, V.str s11, V.int IntKind.i64 n12, V.str s13, V.str s14, V.str s15, V.int IntKind.i64 n16, V.int IntKind.i64 n17, V.str s18]] ++ List.drop (0 + x5.1 + 1) x5.3) (addI IntKind.i64 x5.4 1)) m'19))) (
        need (eqN (0 + x5.1) x5.3.length) (
        need (leN ((x5.1 + 1) * 128) 140737488355328) (
        ((wtC.mk next xs y.1 y.2 y.3 y.4 y.5 y.6 y.7 y.8 y.9 y.10 y.11 next (Int.ofNat 0) : (wtL I).C) = wtC.mk next xs y.1 y.2 y.3 y.4 y.5 y.6 y.7 y.8 y.9 y.10 y.11 next 0) ∧ (
        ∃ m'19 : Nat, (((m'19 : Nat) < m6)) ∧ (
        I (wtC.mk next xs y.1 y.2 y.3 y.4 y.5 y.6 y.7 y.8 y.9 y.10 y.11 next 0) (wtX.mk 0 0 [] 0) (wtX.mk (x5.1 + 1) (x5.1 + 1) (List.drop 0 x5.3 ++ [[V.int IntKind.i64 n8, V.int IntKind.i64 n9, V.int IntKind.i64 n10, V.str s11, V.int IntKind.i64 n12, V.str s13, V.str s14, V.str s15, V.int IntKind.i64 n16, V.int IntKind.i64 n17, V.str s18]]) (addI IntKind.i64 x5.4 1)) m'19)))))))))))))) (
    K (V.agg [V.int IntKind.i64 next, V.ref 0 0 x5.1 x5.2]) [Bk.mk true false true x5.3 0])))) := by kernel_rfl

theorem mv_vc (next : Int) (xs : List (List V)) (s : Int) (uid : List UInt8) (now : Int) (K : V → List Bk → Prop) : vcF Try.prog cfgN (ctOf [(21, nodeCon), (73, touchCon), (72, withCon)]) (lpOf []) 70 [.agg [.int .i64 next, .lst xs], .int .i64 s, .str uid, .int .i64 now] [] K = (
  ∃ l6 : List Node, ((xs : List (List V)) = nodeV l6) ∧ (
  (((l6.length : Nat) ≤ 100000)) ∧ (
  ∃ x7 : Node, (([V.int IntKind.i64 (nodeF l6 s).1, V.int IntKind.i64 (nodeF l6 s).2, V.int IntKind.i64 (nodeF l6 s).3, V.str (nodeF l6 s).4, V.int IntKind.i64 (nodeF l6 s).5, V.str (nodeF l6 s).6, V.str (nodeF l6 s).7, V.str (nodeF l6 s).8, V.int IntKind.i64 (nodeF l6 s).9, V.int IntKind.i64 (nodeF l6 s).10, V.str (nodeF l6 s).11] : List V) = [V.int IntKind.i64 x7.1, V.int IntKind.i64 x7.2, V.int IntKind.i64 x7.3, V.str x7.4, V.int IntKind.i64 x7.5, V.str x7.6, V.str x7.7, V.str x7.8, V.int IntKind.i64 x7.9, V.int IntKind.i64 x7.10, V.str x7.11]) ∧ (
  ((((0 : Int) ≤ x7.3)) ∧ (
  ((x7.3 : Int) ≤ 2147483647))) ∧ (
  ∃ l8 : List Node, ∃ y9 : Node, ((xs : List (List V)) = nodeV l8) ∧ (
  (([V.int IntKind.i64 (touchF x7 uid now).1, V.int IntKind.i64 (touchF x7 uid now).2, V.int IntKind.i64 (touchF x7 uid now).3, V.str (touchF x7 uid now).4, V.int IntKind.i64 (touchF x7 uid now).5, V.str (touchF x7 uid now).6, V.str (touchF x7 uid now).7, V.str (touchF x7 uid now).8, V.int IntKind.i64 (touchF x7 uid now).9, V.int IntKind.i64 (touchF x7 uid now).10, V.str (touchF x7 uid now).11] : List V) = [V.int IntKind.i64 y9.1, V.int IntKind.i64 y9.2, V.int IntKind.i64 y9.3, V.str y9.4, V.int IntKind.i64 y9.5, V.str y9.6, V.str y9.7, V.str y9.8, V.int IntKind.i64 y9.9, V.int IntKind.i64 y9.10, V.str y9.11]) ∧ (
  (((l8.length : Nat) ≤ 100000)) ∧ (
  K (V.agg [V.int IntKind.i64 next, V.ref 0 0 l8.length l8.length]) [Bk.mk true false true (nodeV (withF l8 y9)) 0])))))))) := by kernel_rfl

end Go.Proofs.Ytepehbbagbfmcaa
namespace Go.Proofs.Ytepehbbagbfmcaa
open Go.RowKit
set_option maxRecDepth 100000
set_option linter.unusedVariables false
set_option linter.unusedSimpArgs false
noncomputable def rightT (n : Int) (l : List Node) : Bool := @decide (goodT n l) (Classical.propDecidable _)
theorem rightT_t {n : Int} {l : List Node} : (rightT n l = true) = goodT n l := by simp [rightT]
theorem rightT_no {n : Int} {l : List Node} (h : ¬ goodT n l) : rightT n l = false := by simp [rightT, h]
theorem rightT_yes {n : Int} {l : List Node} (h : goodT n l) : rightT n l = true := by simp [rightT, h]
def fitL (l : List Node) : Prop := ∀ x ∈ l, x.mode ≤ 9223372036854775807 ∧ x.name.length ≤ 9223372036854775807
noncomputable def rightCon : Con := fun vs bs K => match vs, bs with
  | [.agg [.int .i64 n, .lst xs]], [] => ∃ l, xs = nodeV l ∧ fitL l ∧ K (.bool (rightT n l)) []
  | _, _ => False
def goodP (n : Int) (l : List Node) (k : Nat) : Prop := ∀ (j : Nat) (x : Node), j < k → l[j]? = some x → okN n l j x
theorem goodP_succ {n : Int} {l : List Node} {k : Nat} {f : Node} (h : goodP n l k) (gf : l[k]? = some f) (hf : okN n l k f) : goodP n l (k + 1) := fun j x hj gx => by
  rcases Nat.lt_or_ge j k with h1 | h1
  · exact h j x h1 gx
  · obtain rfl : j = k := by omega
    obtain rfl := Option.some.inj (gf.symm.trans gx)
    exact hf
theorem good_pre {n : Int} {l : List Node} (h : goodT n l) (k : Nat) : goodP n l k := fun j x _ gx => h.2.2.2 j x gx
theorem pre_asc {n : Int} {l : List Node} {q : Nat} (h : goodP n l q) : ∀ {j k : Nat} {x y : Node}, j < k → k < q → l[j]? = some x → l[k]? = some y → x.id < y.id := by
  intro j k
  induction k with
  | zero => intro x y hj; omega
  | succ k ih =>
    intro x y hj hq gx gy
    have hk : k < l.length := by have := (List.getElem?_eq_some_iff.1 gy).1; omega
    have gk : l[k]? = some l[k] := List.getElem?_eq_getElem hk
    have h1 := ((h _ y hq gy).2.2.2 (by omega)).2.2.2 k _ rfl gk
    rcases Nat.lt_or_ge j k with h2 | h2
    · have := ih h2 (by omega) gx gk; omega
    · obtain rfl : j = k := by omega
      obtain rfl := Option.some.inj (gx.symm.trans gk)
      exact h1
-- the maps
def dsV (l : List Int) : List (List V) := l.map fun a => [.int .i64 a, .int .i64 1]
def nsV (l : List Node) : List (List V) := l.map fun x => [.agg [.int .i64 x.par, .str x.name], .int .i64 1]
theorem eqT_int (a b : Int) : eqT Try.prog 100 3 (.int .i64 a) (.int .i64 b) = some (decide (a = b)) := by kernel_rfl
theorem eqT_place (a b : Int) (s t : List UInt8) : eqT Try.prog 100 64 (.agg [.int .i64 a, .str s]) (.agg [.int .i64 b, .str t]) = some (decide (a = b) && (strEq s t && true)) := by kernel_rfl
theorem find_ds (a : Int) : ∀ (l : List Int) (i : Nat), (a ∈ l ∧ ∃ j, findM Try.prog 3 (.int .i64 a) (dsV l) i = some (some (j, .int .i64 1))) ∨ (a ∉ l ∧ findM Try.prog 3 (.int .i64 a) (dsV l) i = some none)
  | [], i => .inr ⟨by simp, rfl⟩
  | b :: l, i => by
    unfold dsV
    rw [List.map_cons, findM_cons, eqT_int]
    by_cases h : a = b
    · subst h
      exact .inl ⟨by simp, i, by simp⟩
    · rw [decide_eq_false h]
      rcases find_ds a l (i + 1) with ⟨h1, j, h2⟩ | ⟨h1, h2⟩
      · exact .inl ⟨by simp [h1], j, h2⟩
      · exact .inr ⟨by simp [h, h1], h2⟩
theorem find_ns (a : Int) (s : List UInt8) : ∀ (l : List Node) (i : Nat), ((∃ x ∈ l, x.par = a ∧ x.name = s) ∧ ∃ j, findM Try.prog 64 (.agg [.int .i64 a, .str s]) (nsV l) i = some (some (j, .int .i64 1))) ∨ ((∀ x ∈ l, ¬ (x.par = a ∧ x.name = s)) ∧ findM Try.prog 64 (.agg [.int .i64 a, .str s]) (nsV l) i = some none)
  | [], i => .inr ⟨by simp, rfl⟩
  | b :: l, i => by
    unfold nsV
    rw [List.map_cons, findM_cons, eqT_place]
    by_cases h : b.par = a ∧ b.name = s
    · obtain ⟨rfl, rfl⟩ := h
      exact .inl ⟨⟨b, by simp, rfl, rfl⟩, i, by simp [strEq]⟩
    · have : (decide (a = b.par) && (strEq s b.name && true)) = false := by
        rw [← Bool.not_eq_true]
        simp only [strEq, Bool.and_true, Bool.and_eq_true, decide_eq_true_eq, beq_iff_eq]
        rintro ⟨rfl, rfl⟩
        exact h ⟨rfl, rfl⟩
      rw [this]
      rcases find_ns a s l (i + 1) with ⟨⟨x, hx, h1⟩, j, h2⟩ | ⟨h1, h2⟩
      · exact .inl ⟨⟨x, by simp [hx], h1⟩, j, h2⟩
      · refine .inr ⟨fun x hx => ?_, h2⟩
        rcases List.mem_cons.1 hx with rfl | hx
        · exact h
        · exact h1 x hx
theorem ds_ok (a : Int) (l : List Int) : findOk Try.prog 3 .i64 (.int .i64 a) (dsV l) = true ∧ (a ∈ l → findI Try.prog 3 (.int .i64 a) (dsV l) = 1) ∧ (a ∉ l → findI Try.prog 3 (.int .i64 a) (dsV l) = 0 ∧ findNo Try.prog 3 (.int .i64 a) (dsV l) = true) := by
  rcases find_ds a l 0 with ⟨h1, j, h2⟩ | ⟨h1, h2⟩
  · exact ⟨by simp [findOk, h2], fun _ => by simp [findI, h2], fun q => absurd h1 q⟩
  · exact ⟨by simp [findOk, h2], fun q => absurd q h1, fun _ => ⟨by simp [findI, h2], by simp [findNo, h2]⟩⟩
theorem ns_ok (a : Int) (s : List UInt8) (l : List Node) : findOk Try.prog 64 .i64 (.agg [.int .i64 a, .str s]) (nsV l) = true ∧ ((∃ x ∈ l, x.par = a ∧ x.name = s) → findI Try.prog 64 (.agg [.int .i64 a, .str s]) (nsV l) = 1) ∧
    ((∀ x ∈ l, ¬ (x.par = a ∧ x.name = s)) → findI Try.prog 64 (.agg [.int .i64 a, .str s]) (nsV l) = 0 ∧ findNo Try.prog 64 (.agg [.int .i64 a, .str s]) (nsV l) = true) := by
  rcases find_ns a s l 0 with ⟨⟨x, hx, h1⟩, j, h2⟩ | ⟨h1, h2⟩
  · exact ⟨by simp [findOk, h2], fun _ => by simp [findI, h2], fun q => absurd h1 (q x hx)⟩
  · exact ⟨by simp [findOk, h2], fun ⟨x, hx, q⟩ => absurd q (h1 x hx), fun _ => ⟨by simp [findI, h2], by simp [findNo, h2]⟩⟩
theorem key_last (es : List (List V)) (k v : V) : keyIs (es ++ [[k, v]]) (lenL es) k := by
  unfold keyIs keyAt lenL
  simp
theorem set_last (es : List (List V)) (k v u : V) : setAt (es ++ [[k, v]]) (lenL es) [k, u] = es ++ [[k, u]] := by
  unfold setAt lenL
  simp
def dirsT (l : List Node) (k : Nat) : List Int := ((l.take k).filter fun x => dirB x.mode).map Node.id
theorem dirs_yes {l : List Node} {k : Nat} {f : Node} (gf : l[k]? = some f) (h : dirB f.mode = true) : dirsT l (k + 1) = dirsT l k ++ [f.id] := by
  obtain ⟨hk, rfl⟩ := List.getElem?_eq_some_iff.1 gf
  unfold dirsT
  rw [List.take_succ_eq_append_getElem hk, List.filter_append, List.map_append]
  simp [h]
theorem dirs_no {l : List Node} {k : Nat} {f : Node} (gf : l[k]? = some f) (h : dirB f.mode = false) : dirsT l (k + 1) = dirsT l k := by
  obtain ⟨hk, rfl⟩ := List.getElem?_eq_some_iff.1 gf
  unfold dirsT
  rw [List.take_succ_eq_append_getElem hk, List.filter_append, List.map_append]
  simp [h]
theorem mem_take {l : List Node} {k : Nat} {x : Node} : x ∈ l.take k ↔ ∃ j, j < k ∧ l[j]? = some x := by
  rw [List.mem_iff_getElem?]
  constructor
  · rintro ⟨j, hj⟩
    rw [List.getElem?_take] at hj
    split at hj
    · exact ⟨j, by assumption, hj⟩
    · cases hj
  · rintro ⟨j, h1, h2⟩
    exact ⟨j, by rw [List.getElem?_take, if_pos h1]; exact h2⟩
theorem dirs_mem {l : List Node} {k : Nat} {a : Int} : a ∈ dirsT l k ↔ ∃ (j : Nat) (y : Node), j < k ∧ l[j]? = some y ∧ y.id = a ∧ dirB y.mode = true := by
  unfold dirsT
  simp only [List.mem_map, List.mem_filter, mem_take]
  constructor
  · rintro ⟨x, ⟨⟨j, h1, h2⟩, h3⟩, h4⟩
    exact ⟨j, x, h1, h2, h4, h3⟩
  · rintro ⟨j, x, h1, h2, h4, h3⟩
    exact ⟨x, ⟨⟨j, h1, h2⟩, h3⟩, h4⟩
def namesT (l : List Node) (k : Nat) : List Node := (l.take k).drop 1
theorem names_mem {l : List Node} {k : Nat} {x : Node} : x ∈ namesT l k ↔ ∃ j, 0 < j ∧ j < k ∧ l[j]? = some x := by
  unfold namesT
  rw [List.mem_iff_getElem?]
  constructor
  · rintro ⟨j, hj⟩
    rw [List.getElem?_drop, List.getElem?_take] at hj
    split at hj
    · exact ⟨1 + j, by omega, by assumption, hj⟩
    · cases hj
  · rintro ⟨j, h0, h1, h2⟩
    exact ⟨j - 1, by rw [List.getElem?_drop, show 1 + (j - 1) = j by omega, List.getElem?_take, if_pos h1]; exact h2⟩
theorem names_succ {l : List Node} {k : Nat} {f : Node} (gf : l[k]? = some f) (hk0 : 0 < k) : namesT l (k + 1) = namesT l k ++ [f] := by
  obtain ⟨hk, rfl⟩ := List.getElem?_eq_some_iff.1 gf
  unfold namesT
  rw [List.take_succ_eq_append_getElem hk, List.drop_append_of_le_length (by simp; omega)]
theorem names_one (l : List Node) : namesT l 1 = [] := by
  unfold namesT
  rw [List.drop_eq_nil_iff]
  simp; omega
theorem nsV_add (l : List Node) (x : Node) : nsV l ++ [[.agg [.int .i64 x.par, .str x.name], .int .i64 1]] = nsV (l ++ [x]) := by simp [nsV]
theorem dsV_add (l : List Int) (a : Int) : dsV l ++ [[.int .i64 a, .int .i64 1]] = dsV (l ++ [a]) := by simp [dsV]
theorem tr_con {n : Nat} (hn : 3 ≤ n) : ConOk (evalF Try.prog cfgN n) 16 rightCon := by
  intro vs bs K h
  unfold rightCon at h
  split at h
  · rename_i nx xs
    obtain ⟨l, rfl, hfit, hK⟩ := h
    refine run_of (lp := lpOf [(5, trL fun _ _ x m => ∃ k : Nat, x.i = (k : Int) ∧ k + m = l.length ∧ goodP nx l k ∧ x.ds = dsV (dirsT l k) ∧ x.ns = nsV (namesT l k))]) (by omega) (ct := ctOf [(38, soundCon), (39, intCon dirB), (40, nameCon)]) (fun k hk => ctOf_ok (ctOf_cons (snd_con (by omega)) (ctOf_cons (dir_con (by omega)) (ctOf_cons (pv_con (by omega)) (ctOf_nil _))))) ?_
    rw [tr_vc]
    have no : ¬ goodT nx l → K (.bool false) [] := fun q => by rw [rightT_no q] at hK; exact hK
    simp only [nodeV_lenL]
    refine br_iff.2 ⟨fun g => no ?_, fun g1 => br_iff.2 ⟨fun g => no ?_, fun g2 => br_iff.2 ⟨fun g => no ?_, fun g3 => ?_⟩⟩⟩
    · simp only [br_iff, need_iff, andB_t, andB_f, orB_t, orB_f, notB_t, notB_f, leI_t, leI_f, ltI_t, ltI_f, eqI_t, eqI_f, leN_t, leN_f, eqN_t, eqN_f, eqS_t, eqS_f, eqB_t, eqB_f, catOk_t, leC_t] at g; exact fun q => by have := q.1; omega
    · simp only [br_iff, need_iff, andB_t, andB_f, orB_t, orB_f, notB_t, notB_f, leI_t, leI_f, ltI_t, ltI_f, eqI_t, eqI_f, leN_t, leN_f, eqN_t, eqN_f, eqS_t, eqS_f, eqB_t, eqB_f, catOk_t, leC_t] at g; exact fun q => by have := q.2.1; omega
    · simp only [br_iff, need_iff, andB_t, andB_f, orB_t, orB_f, notB_t, notB_f, leI_t, leI_f, ltI_t, ltI_f, eqI_t, eqI_f, leN_t, leN_f, eqN_t, eqN_f, eqS_t, eqS_f, eqB_t, eqB_f, catOk_t, leC_t] at g; exact fun q => by have := q.2.2.1; omega
    simp only [br_iff, need_iff, andB_t, andB_f, orB_t, orB_f, notB_t, notB_f, leI_t, leI_f, ltI_t, ltI_f, eqI_t, eqI_f, leN_t, leN_f, eqN_t, eqN_f, eqS_t, eqS_f, eqB_t, eqB_f, catOk_t, leC_t] at g1 g2 g3
    refine ⟨⟨l.length, by omega, 0, rfl, by omega, fun j x hj => by omega, rfl, rfl⟩, ?_⟩
    rintro ⟨ds, ns, i⟩ m ⟨k, hi, hk, hp, e1, e2⟩
    dsimp only at hi e1 e2 ⊢
    subst hi e1 e2
    rw [br_iff]
    refine ⟨fun hlt => ?_, fun hge => ?_⟩
    · have hlt : k < l.length := by simp only [br_iff, need_iff, andB_t, andB_f, orB_t, orB_f, notB_t, notB_f, leI_t, leI_f, ltI_t, ltI_f, eqI_t, eqI_f, leN_t, leN_f, eqN_t, eqN_f, eqS_t, eqS_f, eqB_t, eqB_f, catOk_t, leC_t] at hlt; omega
      have gf : l[k]? = some l[k] := List.getElem?_eq_getElem hlt
      generalize l[k] = f at gf
      have rf := nodeV_row gf
      have kf : okRow (nodeV l) (Int.toNat (k : Int)) 11 = true := by simpa using nodeV_ok (l := l) (i := k) hlt
      have nf : andB (leI 0 (k : Int)) (ltI (k : Int) (l.length : Int)) = true := by simp only [br_iff, need_iff, andB_t, andB_f, orB_t, orB_f, notB_t, notB_f, leI_t, leI_f, ltI_t, ltI_f, eqI_t, eqI_f, leN_t, leN_f, eqN_t, eqN_f, eqS_t, eqS_f, eqB_t, eqB_f, catOk_t, leC_t]; omega
      have hff := hfit f (List.mem_of_getElem? gf)
      rw [need_iff, need_iff]
      refine ⟨nf, kf, ?_⟩
      try rw [rf]
      repeat apply Exists.intro
      refine ⟨rfl, ?_⟩
      refine ⟨f, rfl, hff.1, ?_⟩
      -- what is left, when the node itself is sound and in order
      have main : soundB f = true → f.id < nx → (∀ (j : Nat) (y : Node), k = j + 1 → l[j]? = some y → y.id < f.id) → tr_vc_1 nx (nodeV l) (fun _ _ x m => ∃ k : Nat, x.i = (k : Int) ∧ k + m = l.length ∧ goodP nx l k ∧ x.ds = dsV (dirsT l k) ∧ x.ns = nsV (namesT l k)) K ⟨dsV (dirsT l k), nsV (namesT l k), (k : Int)⟩ f.id f.par f.name f.mode m := by
        intro q1 q2 q3
        have hasc : ∀ (j : Nat) (y : Node), j < k → l[j]? = some y → y.id < f.id := fun j y hj gy => by
          have g0 : l[k - 1]? = some l[k - 1] := List.getElem?_eq_getElem (by omega)
          have h0 := q3 (k - 1) _ (by omega) g0
          rcases Nat.lt_or_ge j (k - 1) with h1 | h1
          · have := pre_asc hp h1 (by omega) gy g0; omega
          · obtain rfl : j = k - 1 := by omega
            obtain rfl := Option.some.inj (gy.symm.trans g0)
            exact h0
        have hnd : f.id ∉ dirsT l k := fun q => by
          obtain ⟨j, y, h1, h2, h3, _⟩ := dirs_mem.1 q
          have := hasc j y h1 h2; omega
        obtain ⟨d1, _, d3⟩ := ds_ok f.id (dirsT l k)
        obtain ⟨d4, d5⟩ := d3 hnd
        -- the node is put down
        have down : okN nx l k f → tr_vc_2 nx (nodeV l) (fun _ _ x m => ∃ k : Nat, x.i = (k : Int) ∧ k + m = l.length ∧ goodP nx l k ∧ x.ds = dsV (dirsT l k) ∧ x.ns = nsV (namesT l k)) K ⟨dsV (dirsT l k), nsV (namesT l k), (k : Int)⟩ f.par f.name f.mode f.id m := by
          intro hok
          have hgp := goodP_succ hp gf hok
          unfold tr_vc_2
          dsimp only
          have hadd : addI .i64 (k : Int) 1 = ((k + 1 : Nat) : Int) := by rw [addI_i64 (by omega) (by omega)]; omega
          refine br_iff.2 ⟨fun c => ?_, fun c => ⟨hff.1, br_iff.2 ⟨fun c2 => need_iff.2 ⟨d1, need_iff.2 ⟨d5, ?_⟩⟩, fun c2 => ?_⟩⟩⟩ <;> simp only [br_iff, need_iff, andB_t, andB_f, orB_t, orB_f, notB_t, notB_f, leI_t, leI_f, ltI_t, ltI_f, eqI_t, eqI_f, leN_t, leN_f, eqN_t, eqN_f, eqS_t, eqS_f, eqB_t, eqB_f, catOk_t, leC_t] at c
          · have hnn : ∀ x ∈ namesT l k, ¬ (x.par = f.par ∧ x.name = f.name) := fun x hx => by
              obtain ⟨j, h0, h1, h2⟩ := names_mem.1 hx
              exact (hok.2.2.2 (by omega)).2.2.1 j x h0 h1 h2
            obtain ⟨n1, _, n3⟩ := ns_ok f.par f.name (namesT l k)
            obtain ⟨n4, n5⟩ := n3 hnn
            refine need_iff.2 ⟨n1, need_iff.2 ⟨n5, _, key_last _ _ _, hff.1, br_iff.2 ⟨fun c2 => need_iff.2 ⟨d1, need_iff.2 ⟨d5, ?_⟩⟩, fun c2 => ?_⟩⟩⟩
            · refine ⟨rfl, m - 1, by omega, k + 1, hadd, by omega, hgp, ?_, ?_⟩
              · rw [d4, show addI .i64 0 1 = 1 from rfl, dsV_add, dirs_yes gf c2]
              · rw [n4, show addI .i64 0 1 = 1 from rfl, set_last, nsV_add, names_succ gf (by omega)]
            · refine ⟨rfl, m - 1, by omega, k + 1, hadd, by omega, hgp, ?_, ?_⟩
              · rw [dirs_no gf c2]
              · rw [n4, show addI .i64 0 1 = 1 from rfl, set_last, nsV_add, names_succ gf (by omega)]
          · obtain rfl : k = 0 := by omega
            refine ⟨rfl, m - 1, by omega, 1, hadd, by omega, hgp, ?_, ?_⟩
            · rw [d4, show addI .i64 0 1 = 1 from rfl, dsV_add, dirs_yes gf c2]
            · rw [names_one]; rfl
          · obtain rfl : k = 0 := by omega
            refine ⟨rfl, m - 1, by omega, 1, hadd, by omega, hgp, ?_, ?_⟩
            · rw [dirs_no gf c2]
            · rw [names_one]; rfl
        unfold tr_vc_1
        dsimp only
        refine br_iff.2 ⟨fun c => ?_, fun c => ⟨hff.2, ?_⟩⟩ <;> simp only [br_iff, need_iff, andB_t, andB_f, orB_t, orB_f, notB_t, notB_f, leI_t, leI_f, ltI_t, ltI_f, eqI_t, eqI_f, leN_t, leN_f, eqN_t, eqN_f, eqS_t, eqS_f, eqB_t, eqB_f, catOk_t, leC_t] at c
        · obtain rfl : k = 0 := by omega
          refine br_iff.2 ⟨fun c1 => no fun q => ?_, fun c1 => br_iff.2 ⟨fun c2 => no fun q => ?_, fun c2 => br_iff.2 ⟨fun c3 => no fun q => ?_, fun c3 => ⟨hff.1, br_iff.2 ⟨fun c4 => no fun q => ?_, fun c4 => down ?_⟩⟩⟩⟩⟩
          · simp only [br_iff, need_iff, andB_t, andB_f, orB_t, orB_f, notB_t, notB_f, leI_t, leI_f, ltI_t, ltI_f, eqI_t, eqI_f, leN_t, leN_f, eqN_t, eqN_f, eqS_t, eqS_f, eqB_t, eqB_f, catOk_t, leC_t] at c1; exact c1 ((q.2.2.2 0 f gf).2.2.1 rfl).1
          · simp only [br_iff, need_iff, andB_t, andB_f, orB_t, orB_f, notB_t, notB_f, leI_t, leI_f, ltI_t, ltI_f, eqI_t, eqI_f, leN_t, leN_f, eqN_t, eqN_f, eqS_t, eqS_f, eqB_t, eqB_f, catOk_t, leC_t] at c2; exact c2 ((q.2.2.2 0 f gf).2.2.1 rfl).2.1
          · simp only [br_iff, need_iff, andB_t, andB_f, orB_t, orB_f, notB_t, notB_f, leI_t, leI_f, ltI_t, ltI_f, eqI_t, eqI_f, leN_t, leN_f, eqN_t, eqN_f, eqS_t, eqS_f, eqB_t, eqB_f, catOk_t, leC_t] at c3; exact c3 ((q.2.2.2 0 f gf).2.2.1 rfl).2.2.1
          · simp only [br_iff, need_iff, andB_t, andB_f, orB_t, orB_f, notB_t, notB_f, leI_t, leI_f, ltI_t, ltI_f, eqI_t, eqI_f, leN_t, leN_f, eqN_t, eqN_f, eqS_t, eqS_f, eqB_t, eqB_f, catOk_t, leC_t] at c4; rw [((q.2.2.2 0 f gf).2.2.1 rfl).2.2.2] at c4; cases c4
          · simp only [br_iff, need_iff, andB_t, andB_f, orB_t, orB_f, notB_t, notB_f, leI_t, leI_f, ltI_t, ltI_f, eqI_t, eqI_f, leN_t, leN_f, eqN_t, eqN_f, eqS_t, eqS_f, eqB_t, eqB_f, catOk_t, leC_t] at c1 c2 c3 c4
            exact ⟨q1, q2, fun _ => ⟨c1, c2, c3, c4⟩, fun q => by omega⟩
        · have hk0 : 0 < k := by omega
          obtain ⟨p1, p2, p3⟩ := ds_ok f.par (dirsT l k)
          obtain ⟨n1, n2, n3⟩ := ns_ok f.par f.name (namesT l k)
          refine br_iff.2 ⟨fun c1 => no fun q => ?_, fun c1 => need_iff.2 ⟨p1, br_iff.2 ⟨fun c2 => no fun q => ?_, fun c2 => need_iff.2 ⟨n1, br_iff.2 ⟨fun c3 => no fun q => ?_, fun c3 => down ?_⟩⟩⟩⟩⟩
          · simp only [br_iff, need_iff, andB_t, andB_f, orB_t, orB_f, notB_t, notB_f, leI_t, leI_f, ltI_t, ltI_f, eqI_t, eqI_f, leN_t, leN_f, eqN_t, eqN_f, eqS_t, eqS_f, eqB_t, eqB_f, catOk_t, leC_t] at c1; rw [((q.2.2.2 k f gf).2.2.2 hk0).1] at c1; cases c1
          · simp only [br_iff, need_iff, andB_t, andB_f, orB_t, orB_f, notB_t, notB_f, leI_t, leI_f, ltI_t, ltI_f, eqI_t, eqI_f, leN_t, leN_f, eqN_t, eqN_f, eqS_t, eqS_f, eqB_t, eqB_f, catOk_t, leC_t] at c2
            have := dirs_mem.2 ((q.2.2.2 k f gf).2.2.2 hk0).2.1
            rw [p2 this] at c2; cases c2
          · simp only [br_iff, need_iff, andB_t, andB_f, orB_t, orB_f, notB_t, notB_f, leI_t, leI_f, ltI_t, ltI_f, eqI_t, eqI_f, leN_t, leN_f, eqN_t, eqN_f, eqS_t, eqS_f, eqB_t, eqB_f, catOk_t, leC_t] at c3
            have : ∀ x ∈ namesT l k, ¬ (x.par = f.par ∧ x.name = f.name) := fun x hx => by
              obtain ⟨j, h0, h1, h2⟩ := names_mem.1 hx
              exact ((q.2.2.2 k f gf).2.2.2 hk0).2.2.1 j x h0 h1 h2
            rw [(n3 this).1] at c3; omega
          · simp only [br_iff, need_iff, andB_t, andB_f, orB_t, orB_f, notB_t, notB_f, leI_t, leI_f, ltI_t, ltI_f, eqI_t, eqI_f, leN_t, leN_f, eqN_t, eqN_f, eqS_t, eqS_f, eqB_t, eqB_f, catOk_t, leC_t] at c1 c2 c3
            refine ⟨q1, q2, fun q => by omega, fun _ => ⟨c1, ?_, fun j y h0 h1 h2 q => ?_, q3⟩⟩
            · by_cases hm : f.par ∈ dirsT l k
              · exact dirs_mem.1 hm
              · exact absurd (p3 hm).1 c2
            · rw [n2 ⟨y, names_mem.2 ⟨j, h0, h1, h2⟩, q⟩] at c3; omega
      refine br_iff.2 ⟨fun c => no fun q => ?_, fun c1 => br_iff.2 ⟨fun c => no fun q => ?_, fun c2 => br_iff.2 ⟨fun c3 => ?_, fun c3 => ?_⟩⟩⟩
      · simp only [br_iff, need_iff, andB_t, andB_f, orB_t, orB_f, notB_t, notB_f, leI_t, leI_f, ltI_t, ltI_f, eqI_t, eqI_f, leN_t, leN_f, eqN_t, eqN_f, eqS_t, eqS_f, eqB_t, eqB_f, catOk_t, leC_t] at c; rw [(q.2.2.2 k f gf).1] at c; cases c
      · simp only [br_iff, need_iff, andB_t, andB_f, orB_t, orB_f, notB_t, notB_f, leI_t, leI_f, ltI_t, ltI_f, eqI_t, eqI_f, leN_t, leN_f, eqN_t, eqN_f, eqS_t, eqS_f, eqB_t, eqB_f, catOk_t, leC_t] at c; have := (q.2.2.2 k f gf).2.1; omega
      · simp only [br_iff, need_iff, andB_t, andB_f, orB_t, orB_f, notB_t, notB_f, leI_t, leI_f, ltI_t, ltI_f, eqI_t, eqI_f, leN_t, leN_f, eqN_t, eqN_f, eqS_t, eqS_f, eqB_t, eqB_f, catOk_t, leC_t] at c1 c2 c3
        obtain ⟨kp, rfl⟩ : ∃ kp, k = kp + 1 := ⟨k - 1, by omega⟩
        rw [show subI .i64 ((kp + 1 : Nat) : Int) 1 = ((kp : Nat) : Int) by rw [subI_i64 (by omega) (by omega)]; omega]
        have hkp : kp < l.length := by omega
        have gg : l[kp]? = some l[kp] := List.getElem?_eq_getElem hkp
        generalize l[kp] = g at gg
        have rg := nodeV_row gg
        have kg : okRow (nodeV l) (Int.toNat (kp : Int)) 11 = true := by simpa using nodeV_ok (l := l) (i := kp) hkp
        have ng : andB (leI 0 (kp : Int)) (ltI (kp : Int) (l.length : Int)) = true := by simp only [br_iff, need_iff, andB_t, andB_f, orB_t, orB_f, notB_t, notB_f, leI_t, leI_f, ltI_t, ltI_f, eqI_t, eqI_f, leN_t, leN_f, eqN_t, eqN_f, eqS_t, eqS_f, eqB_t, eqB_f, catOk_t, leC_t]; omega
        rw [need_iff, need_iff]
        refine ⟨ng, kg, ?_⟩
        try rw [rg]
        repeat apply Exists.intro
        refine ⟨rfl, ?_⟩
        refine br_iff.2 ⟨fun c => no fun q => ?_, fun c4 => main c1 c2 fun j y hj gy => ?_⟩
        · simp only [br_iff, need_iff, andB_t, andB_f, orB_t, orB_f, notB_t, notB_f, leI_t, leI_f, ltI_t, ltI_f, eqI_t, eqI_f, leN_t, leN_f, eqN_t, eqN_f, eqS_t, eqS_f, eqB_t, eqB_f, catOk_t, leC_t] at c
          have := ((q.2.2.2 (kp + 1) f gf).2.2.2 (by omega)).2.2.2 kp g rfl gg
          omega
        · simp only [br_iff, need_iff, andB_t, andB_f, orB_t, orB_f, notB_t, notB_f, leI_t, leI_f, ltI_t, ltI_f, eqI_t, eqI_f, leN_t, leN_f, eqN_t, eqN_f, eqS_t, eqS_f, eqB_t, eqB_f, catOk_t, leC_t] at c4
          obtain rfl : j = kp := by omega
          obtain rfl := Option.some.inj (gy.symm.trans gg)
          omega
      · simp only [br_iff, need_iff, andB_t, andB_f, orB_t, orB_f, notB_t, notB_f, leI_t, leI_f, ltI_t, ltI_f, eqI_t, eqI_f, leN_t, leN_f, eqN_t, eqN_f, eqS_t, eqS_f, eqB_t, eqB_f, catOk_t, leC_t] at c1 c2 c3
        exact main c1 c2 fun j y hj gy => by omega
    · have : k = l.length := by simp only [br_iff, need_iff, andB_t, andB_f, orB_t, orB_f, notB_t, notB_f, leI_t, leI_f, ltI_t, ltI_f, eqI_t, eqI_f, leN_t, leN_f, eqN_t, eqN_f, eqS_t, eqS_f, eqB_t, eqB_f, catOk_t, leC_t] at hge; omega
      subst this
      have hgood : goodT nx l := ⟨by omega, by omega, g3, fun j x gx => hp j x (List.getElem?_eq_some_iff.1 gx).1 gx⟩
      rw [rightT_yes hgood] at hK; exact hK
  · exact h.elim
end Go.Proofs.Ytepehbbagbfmcaa
namespace Go.Proofs.Ytepehbbagbfmcaa
open Go.RowKit
set_option maxRecDepth 100000
set_option linter.unusedVariables false
set_option linter.unusedSimpArgs false
def goodQ (l : List Node) (k : Nat) : Prop := ∀ (j : Nat) (x : Node), j < k → l[j]? = some x → okN (x.id + 1) l j x
theorem okN_of {n : Int} {l : List Node} {j : Nat} {x : Node} (h : okN (x.id + 1) l j x) (hn : x.id < n) : okN n l j x := ⟨h.1, hn, h.2.2⟩
theorem okN_to {n : Int} {l : List Node} {j : Nat} {x : Node} (h : okN n l j x) : okN (x.id + 1) l j x := ⟨h.1, by omega, h.2.2⟩
theorem goodQ_succ {l : List Node} {k : Nat} {f : Node} (h : goodQ l k) (gf : l[k]? = some f) (hf : okN (f.id + 1) l k f) : goodQ l (k + 1) := fun j x hj gx => by
  rcases Nat.lt_or_ge j k with h1 | h1
  · exact h j x h1 gx
  · obtain rfl : j = k := by omega
    obtain rfl := Option.some.inj (gf.symm.trans gx)
    exact hf
theorem goodQ_asc {l : List Node} {q : Nat} (h : goodQ l q) : ∀ {j k : Nat} {x y : Node}, j < k → k < q → l[j]? = some x → l[k]? = some y → x.id < y.id := by
  intro j k
  induction k with
  | zero => intro x y hj; omega
  | succ k ih =>
    intro x y hj hq gx gy
    have hk : k < l.length := by have := (List.getElem?_eq_some_iff.1 gy).1; omega
    have gk : l[k]? = some l[k] := List.getElem?_eq_getElem hk
    have h1 := ((h _ y hq gy).2.2.2 (by omega)).2.2.2 k _ rfl gk
    rcases Nat.lt_or_ge j k with h2 | h2
    · have := ih h2 (by omega) gx gk; omega
    · obtain rfl : j = k := by omega
      obtain rfl := Option.some.inj (gx.symm.trans gk)
      exact h1
def dirTo (l : List Node) (p : Int) (q : Nat) : Prop := ∃ (j : Nat) (y : Node), j < q ∧ l[j]? = some y ∧ y.id = p ∧ dirB y.mode = true
def uniqTo (l : List Node) (f : Node) (q : Nat) : Prop := ∀ (j : Nat) (y : Node), 0 < j → j < q → l[j]? = some y → ¬ (y.par = f.par ∧ y.name = f.name)
theorem uniq_next {l : List Node} {f g : Node} {q : Nat} (h : uniqTo l f q) (gg : l[q]? = some g) (hg : 0 < q → ¬ (g.par = f.par ∧ g.name = f.name)) : uniqTo l f (q + 1) := fun j y h0 hj gy => by
  rcases Nat.lt_or_ge j q with h1 | h1
  · exact h j y h0 h1 gy
  · obtain rfl : j = q := by omega
    obtain rfl := Option.some.inj (gg.symm.trans gy)
    exact hg h0
theorem dir_next {l : List Node} {p : Int} {g : Node} {q : Nat} (gg : l[q]? = some g) : dirTo l p (q + 1) ↔ dirTo l p q ∨ (g.id = p ∧ dirB g.mode = true) := by
  constructor
  · rintro ⟨j, y, hj, gy, h1, h2⟩
    rcases Nat.lt_or_ge j q with h | h
    · exact .inl ⟨j, y, h, gy, h1, h2⟩
    · obtain rfl : j = q := by omega
      obtain rfl := Option.some.inj (gg.symm.trans gy)
      exact .inr ⟨h1, h2⟩
  · rintro (⟨j, y, hj, gy, h⟩ | h)
    · exact ⟨j, y, by omega, gy, h⟩
    · exact ⟨q, g, by omega, gg, h⟩
theorem rr_con {n : Nat} (hn : 3 ≤ n) : ConOk (evalF Try.prog cfgN n) 17 rightCon := by
  intro vs bs K h
  unfold rightCon at h
  split at h
  · rename_i nx xs
    obtain ⟨l, rfl, hfit, hK⟩ := h
    refine run_of (lp := lpOf [(7, roL fun _ _ x m => ∃ k : Nat, x.i = (k : Int) ∧ 1 ≤ k ∧ k + m = l.length ∧ goodQ l k), (13, rnL fun c _ x m => ∃ (k q : Nat) (f : Node), c.i = (k : Int) ∧ l[k]? = some f ∧ x.k = (q : Int) ∧ q + m = k ∧ (x.dir = true ↔ dirTo l f.par q) ∧ uniqTo l f q)]) (by omega) (ct := ctOf [(41, soundCon), (43, intCon isDirB), (42, nameCon)]) (fun k hk => ctOf_ok (ctOf_cons (rsnd_con (by omega)) (ctOf_cons (risd_con (by omega)) (ctOf_cons (rv_con (by omega)) (ctOf_nil _))))) ?_
    rw [rr_vc]
    have no : ¬ goodT nx l → K (.bool false) [] := fun q => by rw [rightT_no q] at hK; exact hK
    simp only [nodeV_lenL]
    refine br_iff.2 ⟨fun g => no ?_, fun g1 => br_iff.2 ⟨fun g => no ?_, fun g2 => ?_⟩⟩
    · simp only [br_iff, need_iff, andB_t, andB_f, orB_t, orB_f, notB_t, notB_f, leI_t, leI_f, ltI_t, ltI_f, eqI_t, eqI_f, leN_t, leN_f, eqN_t, eqN_f, eqS_t, eqS_f, eqB_t, eqB_f, catOk_t, leC_t] at g; exact fun q => by have := q.1; omega
    · simp only [br_iff, need_iff, andB_t, andB_f, orB_t, orB_f, notB_t, notB_f, leI_t, leI_f, ltI_t, ltI_f, eqI_t, eqI_f, leN_t, leN_f, eqN_t, eqN_f, eqS_t, eqS_f, eqB_t, eqB_f, catOk_t, leC_t] at g; exact fun q => by have := q.2.1; omega
    simp only [br_iff, need_iff, andB_t, andB_f, orB_t, orB_f, notB_t, notB_f, leI_t, leI_f, ltI_t, ltI_f, eqI_t, eqI_f, leN_t, leN_f, eqN_t, eqN_f, eqS_t, eqS_f, eqB_t, eqB_f, catOk_t, leC_t] at g1 g2
    have h0 : 0 < l.length := by omega
    have g0 : l[0]? = some l[0] := List.getElem?_eq_getElem h0
    generalize l[0] = f0 at g0
    have n0 : andB true (ltI 0 (l.length : Int)) = true := by rw [andB_t, ltI_t]; exact ⟨rfl, by omega⟩
    have k0 : okRow (nodeV l) 0 11 = true := nodeV_ok h0
    have r0 : rowAt (nodeV l) 0 = f0.v := nodeV_row g0
    have hf0 := hfit f0 (List.mem_of_getElem? g0)
    have q0 : goodT nx l → f0.id = 1 ∧ f0.par = 1 ∧ f0.name = [47] ∧ dirB f0.mode = true := fun q => (q.2.2.2 0 f0 g0).2.2.1 rfl
    rw [need_iff, need_iff]
    refine ⟨n0, k0, ?_⟩
    try rw [r0]
    repeat apply Exists.intro
    refine ⟨rfl, ?_⟩
    refine br_iff.2 ⟨fun c => no fun q => ?_, fun c1 => ?_⟩
    · simp only [br_iff, need_iff, andB_t, andB_f, orB_t, orB_f, notB_t, notB_f, leI_t, leI_f, ltI_t, ltI_f, eqI_t, eqI_f, leN_t, leN_f, eqN_t, eqN_f, eqS_t, eqS_f, eqB_t, eqB_f, catOk_t, leC_t] at c; exact c (q0 q).1
    rw [need_iff, need_iff]
    refine ⟨n0, k0, ?_⟩
    try rw [r0]
    repeat apply Exists.intro
    refine ⟨rfl, ?_⟩
    refine br_iff.2 ⟨fun c => no fun q => ?_, fun c2 => ?_⟩
    · simp only [br_iff, need_iff, andB_t, andB_f, orB_t, orB_f, notB_t, notB_f, leI_t, leI_f, ltI_t, ltI_f, eqI_t, eqI_f, leN_t, leN_f, eqN_t, eqN_f, eqS_t, eqS_f, eqB_t, eqB_f, catOk_t, leC_t] at c; exact c (q0 q).2.1
    rw [need_iff, need_iff]
    refine ⟨n0, k0, ?_⟩
    try rw [r0]
    repeat apply Exists.intro
    refine ⟨rfl, ?_⟩
    refine br_iff.2 ⟨fun c => no fun q => ?_, fun c3 => ?_⟩
    · simp only [br_iff, need_iff, andB_t, andB_f, orB_t, orB_f, notB_t, notB_f, leI_t, leI_f, ltI_t, ltI_f, eqI_t, eqI_f, leN_t, leN_f, eqN_t, eqN_f, eqS_t, eqS_f, eqB_t, eqB_f, catOk_t, leC_t] at c; exact c (q0 q).2.2.1
    rw [need_iff, need_iff]
    refine ⟨n0, k0, ?_⟩
    try rw [r0]
    repeat apply Exists.intro
    refine ⟨rfl, ?_⟩
    refine br_iff.2 ⟨fun c => no fun q => ?_, fun c4 => ?_⟩
    · simp only [br_iff, need_iff, andB_t, andB_f, orB_t, orB_f, notB_t, notB_f, leI_t, leI_f, ltI_t, ltI_f, eqI_t, eqI_f, leN_t, leN_f, eqN_t, eqN_f, eqS_t, eqS_f, eqB_t, eqB_f, catOk_t, leC_t] at c
      have e1 := (q0 q).2.2.2
      rw [← valid_dir (good_valid q g0)] at e1
      simp only [isDirB, decide_eq_true_eq] at e1; omega
    rw [need_iff, need_iff]
    refine ⟨n0, k0, ?_⟩
    try rw [r0]
    repeat apply Exists.intro
    refine ⟨rfl, ?_⟩
    refine ⟨f0, rfl, hf0.1, br_iff.2 ⟨fun c => no fun q => ?_, fun c5 => ?_⟩⟩
    · simp only [br_iff, need_iff, andB_t, andB_f, orB_t, orB_f, notB_t, notB_f, leI_t, leI_f, ltI_t, ltI_f, eqI_t, eqI_f, leN_t, leN_f, eqN_t, eqN_f, eqS_t, eqS_f, eqB_t, eqB_f, catOk_t, leC_t] at c; rw [(q.2.2.2 0 f0 g0).1] at c; cases c
    simp only [br_iff, need_iff, andB_t, andB_f, orB_t, orB_f, notB_t, notB_f, leI_t, leI_f, ltI_t, ltI_f, eqI_t, eqI_f, leN_t, leN_f, eqN_t, eqN_f, eqS_t, eqS_f, eqB_t, eqB_f, catOk_t, leC_t] at c1 c2 c3 c4 c5
    have d0 : dirB f0.mode = true := by rw [← valid_dir (sound_iff.1 c5).1]; simp only [isDirB, decide_eq_true_eq]; omega
    -- the last
    obtain ⟨kl, hkl⟩ : ∃ kl, l.length = kl + 1 := ⟨l.length - 1, by omega⟩
    have hll : kl < l.length := by omega
    rw [show subI .i64 (l.length : Int) 1 = (kl : Int) by rw [subI_i64 (by omega) (by omega)]; omega]
    have gz : l[kl]? = some l[kl] := List.getElem?_eq_getElem hll
    generalize l[kl] = z at gz
    have rz := nodeV_row gz
    have kz : okRow (nodeV l) (Int.toNat (kl : Int)) 11 = true := by simpa using nodeV_ok (l := l) (i := kl) hll
    have nz : andB (leI 0 (kl : Int)) (ltI (kl : Int) (l.length : Int)) = true := by simp only [br_iff, need_iff, andB_t, andB_f, orB_t, orB_f, notB_t, notB_f, leI_t, leI_f, ltI_t, ltI_f, eqI_t, eqI_f, leN_t, leN_f, eqN_t, eqN_f, eqS_t, eqS_f, eqB_t, eqB_f, catOk_t, leC_t]; omega
    rw [need_iff, need_iff]
    refine ⟨nz, kz, ?_⟩
    try rw [rz]
    repeat apply Exists.intro
    refine ⟨rfl, ?_⟩
    refine br_iff.2 ⟨fun c => no fun q => ?_, fun c6 => br_iff.2 ⟨fun c => no fun q => ?_, fun c7 => ?_⟩⟩
    · simp only [br_iff, need_iff, andB_t, andB_f, orB_t, orB_f, notB_t, notB_f, leI_t, leI_f, ltI_t, ltI_f, eqI_t, eqI_f, leN_t, leN_f, eqN_t, eqN_f, eqS_t, eqS_f, eqB_t, eqB_f, catOk_t, leC_t] at c; have := (q.2.2.2 kl z gz).2.1; omega
    · simp only [br_iff, need_iff, andB_t, andB_f, orB_t, orB_f, notB_t, notB_f, leI_t, leI_f, ltI_t, ltI_f, eqI_t, eqI_f, leN_t, leN_f, eqN_t, eqN_f, eqS_t, eqS_f, eqB_t, eqB_f, catOk_t, leC_t] at c; have := q.2.2.1; omega
    simp only [br_iff, need_iff, andB_t, andB_f, orB_t, orB_f, notB_t, notB_f, leI_t, leI_f, ltI_t, ltI_f, eqI_t, eqI_f, leN_t, leN_f, eqN_t, eqN_f, eqS_t, eqS_f, eqB_t, eqB_f, catOk_t, leC_t] at c6 c7
    refine ⟨⟨l.length - 1, by omega, 1, rfl, by omega, by omega, fun j x hj gx => ?_⟩, ?_⟩
    · obtain rfl : j = 0 := by omega
      obtain rfl := Option.some.inj (g0.symm.trans gx)
      exact ⟨c5, by omega, fun _ => ⟨c1, c2, c3, d0⟩, fun q => by omega⟩
    rintro ⟨i⟩ m ⟨k, hi, hk1, hk, hp⟩
    dsimp only at hi ⊢
    subst hi
    rw [br_iff]
    refine ⟨fun hlt => ?_, fun hge => ?_⟩
    · have hlt : k < l.length := by simp only [br_iff, need_iff, andB_t, andB_f, orB_t, orB_f, notB_t, notB_f, leI_t, leI_f, ltI_t, ltI_f, eqI_t, eqI_f, leN_t, leN_f, eqN_t, eqN_f, eqS_t, eqS_f, eqB_t, eqB_f, catOk_t, leC_t] at hlt; omega
      have gf : l[k]? = some l[k] := List.getElem?_eq_getElem hlt
      generalize l[k] = f at gf
      have rf := nodeV_row gf
      have kf : okRow (nodeV l) (Int.toNat (k : Int)) 11 = true := by simpa using nodeV_ok (l := l) (i := k) hlt
      have nf : andB (leI 0 (k : Int)) (ltI (k : Int) (l.length : Int)) = true := by simp only [br_iff, need_iff, andB_t, andB_f, orB_t, orB_f, notB_t, notB_f, leI_t, leI_f, ltI_t, ltI_f, eqI_t, eqI_f, leN_t, leN_f, eqN_t, eqN_f, eqS_t, eqS_f, eqB_t, eqB_f, catOk_t, leC_t]; omega
      have hff := hfit f (List.mem_of_getElem? gf)
      obtain ⟨w0, hkp⟩ : ∃ w0, k = w0 + 1 := ⟨k - 1, by omega⟩
      have hlp : w0 < l.length := by omega
      rw [show subI .i64 (k : Int) 1 = (w0 : Int) by rw [subI_i64 (by omega) (by omega)]; omega]
      have gp : l[w0]? = some l[w0] := List.getElem?_eq_getElem hlp
      generalize l[w0] = p at gp
      have rp := nodeV_row gp
      have kp : okRow (nodeV l) (Int.toNat (w0 : Int)) 11 = true := by simpa using nodeV_ok (l := l) (i := w0) hlp
      have np : andB (leI 0 (w0 : Int)) (ltI (w0 : Int) (l.length : Int)) = true := by simp only [br_iff, need_iff, andB_t, andB_f, orB_t, orB_f, notB_t, notB_f, leI_t, leI_f, ltI_t, ltI_f, eqI_t, eqI_f, leN_t, leN_f, eqN_t, eqN_f, eqS_t, eqS_f, eqB_t, eqB_f, catOk_t, leC_t]; omega
      rw [need_iff, need_iff]
      refine ⟨nf, kf, ?_⟩
      try rw [rf]
      repeat apply Exists.intro
      refine ⟨rfl, ?_⟩
      rw [need_iff, need_iff]
      refine ⟨np, kp, ?_⟩
      try rw [rp]
      repeat apply Exists.intro
      refine ⟨rfl, ?_⟩
      refine br_iff.2 ⟨fun c => no fun q => ?_, fun e1 => ?_⟩
      · simp only [br_iff, need_iff, andB_t, andB_f, orB_t, orB_f, notB_t, notB_f, leI_t, leI_f, ltI_t, ltI_f, eqI_t, eqI_f, leN_t, leN_f, eqN_t, eqN_f, eqS_t, eqS_f, eqB_t, eqB_f, catOk_t, leC_t] at c; have := ((q.2.2.2 k f gf).2.2.2 hk1).2.2.2 w0 p hkp gp; omega
      rw [need_iff, need_iff]
      refine ⟨nf, kf, ?_⟩
      try rw [rf]
      repeat apply Exists.intro
      refine ⟨rfl, ?_⟩
      rw [need_iff, need_iff]
      refine ⟨nf, kf, ?_⟩
      try rw [rf]
      repeat apply Exists.intro
      refine ⟨rfl, ?_⟩
      refine br_iff.2 ⟨fun c => no fun q => ?_, fun e2 => ?_⟩
      · simp only [br_iff, need_iff, andB_t, andB_f, orB_t, orB_f, notB_t, notB_f, leI_t, leI_f, ltI_t, ltI_f, eqI_t, eqI_f, leN_t, leN_f, eqN_t, eqN_f, eqS_t, eqS_f, eqB_t, eqB_f, catOk_t, leC_t] at c
        obtain ⟨j, y, hj, gy, h1, _⟩ := ((q.2.2.2 k f gf).2.2.2 hk1).2.1
        have := good_asc q hj gy gf
        omega
      rw [need_iff, need_iff]
      refine ⟨nf, kf, ?_⟩
      try rw [rf]
      repeat apply Exists.intro
      refine ⟨rfl, ?_⟩
      refine ⟨hff.2, br_iff.2 ⟨fun c => no fun q => ?_, fun e3 => ?_⟩⟩
      · simp only [br_iff, need_iff, andB_t, andB_f, orB_t, orB_f, notB_t, notB_f, leI_t, leI_f, ltI_t, ltI_f, eqI_t, eqI_f, leN_t, leN_f, eqN_t, eqN_f, eqS_t, eqS_f, eqB_t, eqB_f, catOk_t, leC_t] at c; rw [((q.2.2.2 k f gf).2.2.2 hk1).1] at c; cases c
      rw [need_iff, need_iff]
      refine ⟨nf, kf, ?_⟩
      try rw [rf]
      repeat apply Exists.intro
      refine ⟨rfl, ?_⟩
      refine ⟨f, rfl, hff.1, br_iff.2 ⟨fun c => no fun q => ?_, fun e4 => ?_⟩⟩
      · simp only [br_iff, need_iff, andB_t, andB_f, orB_t, orB_f, notB_t, notB_f, leI_t, leI_f, ltI_t, ltI_f, eqI_t, eqI_f, leN_t, leN_f, eqN_t, eqN_f, eqS_t, eqS_f, eqB_t, eqB_f, catOk_t, leC_t] at c; rw [(q.2.2.2 k f gf).1] at c; cases c
      simp only [br_iff, need_iff, andB_t, andB_f, orB_t, orB_f, notB_t, notB_f, leI_t, leI_f, ltI_t, ltI_f, eqI_t, eqI_f, leN_t, leN_f, eqN_t, eqN_f, eqS_t, eqS_f, eqB_t, eqB_f, catOk_t, leC_t] at e1 e2 e3 e4
      refine ⟨⟨k, by omega, k, 0, f, rfl, gf, rfl, by omega, ⟨(fun q => by cases q), (fun ⟨j, y, hj, _⟩ => by omega)⟩, fun j y h0 hj => by omega⟩, ?_⟩
      rintro ⟨dir, i2⟩ m2 ⟨k', q, f', hc, gf', hi2, hq, hdir, huq⟩
      dsimp only at hc hi2 hdir ⊢
      obtain rfl : k' = k := by omega
      obtain rfl := Option.some.inj (gf.symm.trans gf')
      subst hi2
      refine br_iff.2 ⟨fun hlt2 => ?_, fun hge2 => ?_⟩
      · have hlt2 : q < k' := by simp only [br_iff, need_iff, andB_t, andB_f, orB_t, orB_f, notB_t, notB_f, leI_t, leI_f, ltI_t, ltI_f, eqI_t, eqI_f, leN_t, leN_f, eqN_t, eqN_f, eqS_t, eqS_f, eqB_t, eqB_f, catOk_t, leC_t] at hlt2; omega
        have hql : q < l.length := by omega
        have gg : l[q]? = some l[q] := List.getElem?_eq_getElem hql
        generalize l[q] = g at gg
        have rg := nodeV_row gg
        have kg : okRow (nodeV l) (Int.toNat (q : Int)) 11 = true := by simpa using nodeV_ok (l := l) (i := q) hql
        have ng : andB (leI 0 (q : Int)) (ltI (q : Int) (l.length : Int)) = true := by simp only [br_iff, need_iff, andB_t, andB_f, orB_t, orB_f, notB_t, notB_f, leI_t, leI_f, ltI_t, ltI_f, eqI_t, eqI_f, leN_t, leN_f, eqN_t, eqN_f, eqS_t, eqS_f, eqB_t, eqB_f, catOk_t, leC_t]; omega
        have hgg := hfit g (List.mem_of_getElem? gg)
        have hadd : addI .i64 (q : Int) 1 = ((q + 1 : Nat) : Int) := by rw [addI_i64 (by omega) (by omega)]; omega
        have hvg : isDirB g.mode = dirB g.mode := valid_dir (sound_iff.1 (hp q g hlt2 gg).1).1
        have dup : 0 < q → g.par = f.par → g.name = f.name → K (.bool false) [] := fun a1 a2 a3 => no fun z => ((z.2.2.2 k' f gf).2.2.2 hk1).2.2.1 q g a1 hlt2 gg ⟨a2, a3⟩
        refine br_iff.2 ⟨fun b1 => ?_, fun b1 => ?_⟩
        · -- the directory was there before
          have fin : (0 < q → ¬ (g.par = f.par ∧ g.name = f.name)) → ∃ m' : Nat, m' < m2 ∧ ∃ (k q' : Nat) (f' : Node), (k' : Int) = (k : Int) ∧ l[k]? = some f' ∧ addI .i64 (q : Int) 1 = (q' : Int) ∧ q' + m' = k ∧ (true = true ↔ dirTo l f'.par q') ∧ uniqTo l f' q' :=
            fun a => ⟨m2 - 1, by omega, k', q + 1, f, rfl, gf, hadd, by omega, ⟨fun _ => (dir_next gg).2 (.inl (hdir.1 b1)), fun _ => rfl⟩, uniq_next huq gg a⟩
          refine br_iff.2 ⟨fun b2 => ?_, fun b2 => ?_⟩
          · simp only [br_iff, need_iff, andB_t, andB_f, orB_t, orB_f, notB_t, notB_f, leI_t, leI_f, ltI_t, ltI_f, eqI_t, eqI_f, leN_t, leN_f, eqN_t, eqN_f, eqS_t, eqS_f, eqB_t, eqB_f, catOk_t, leC_t] at b2
            rw [need_iff, need_iff]
            refine ⟨ng, kg, ?_⟩
            try rw [rg]
            repeat apply Exists.intro
            refine ⟨rfl, ?_⟩
            rw [need_iff, need_iff]
            refine ⟨nf, kf, ?_⟩
            try rw [rf]
            repeat apply Exists.intro
            refine ⟨rfl, ?_⟩
            refine br_iff.2 ⟨fun b3 => ?_, fun b3 => ?_⟩
            · simp only [br_iff, need_iff, andB_t, andB_f, orB_t, orB_f, notB_t, notB_f, leI_t, leI_f, ltI_t, ltI_f, eqI_t, eqI_f, leN_t, leN_f, eqN_t, eqN_f, eqS_t, eqS_f, eqB_t, eqB_f, catOk_t, leC_t] at b3
              rw [need_iff, need_iff]
              refine ⟨ng, kg, ?_⟩
              try rw [rg]
              repeat apply Exists.intro
              refine ⟨rfl, ?_⟩
              rw [need_iff, need_iff]
              refine ⟨nf, kf, ?_⟩
              try rw [rf]
              repeat apply Exists.intro
              refine ⟨rfl, ?_⟩
              refine br_iff.2 ⟨fun b4 => ?_, fun b4 => ?_⟩
              · simp only [br_iff, need_iff, andB_t, andB_f, orB_t, orB_f, notB_t, notB_f, leI_t, leI_f, ltI_t, ltI_f, eqI_t, eqI_f, leN_t, leN_f, eqN_t, eqN_f, eqS_t, eqS_f, eqB_t, eqB_f, catOk_t, leC_t] at b4
                exact dup (by omega) b3 b4
              · simp only [br_iff, need_iff, andB_t, andB_f, orB_t, orB_f, notB_t, notB_f, leI_t, leI_f, ltI_t, ltI_f, eqI_t, eqI_f, leN_t, leN_f, eqN_t, eqN_f, eqS_t, eqS_f, eqB_t, eqB_f, catOk_t, leC_t] at b4
                exact ⟨rfl, fin fun _ a => b4 a.2⟩
            · simp only [br_iff, need_iff, andB_t, andB_f, orB_t, orB_f, notB_t, notB_f, leI_t, leI_f, ltI_t, ltI_f, eqI_t, eqI_f, leN_t, leN_f, eqN_t, eqN_f, eqS_t, eqS_f, eqB_t, eqB_f, catOk_t, leC_t] at b3
              exact ⟨rfl, fin fun _ a => b3 a.1⟩
          · simp only [br_iff, need_iff, andB_t, andB_f, orB_t, orB_f, notB_t, notB_f, leI_t, leI_f, ltI_t, ltI_f, eqI_t, eqI_f, leN_t, leN_f, eqN_t, eqN_f, eqS_t, eqS_f, eqB_t, eqB_f, catOk_t, leC_t] at b2
            exact ⟨rfl, fin fun a => by omega⟩
        · have hnd : ¬ dirTo l f.par q := fun a => by rw [hdir.2 a] at b1; cases b1
          rw [need_iff, need_iff]
          refine ⟨ng, kg, ?_⟩
          try rw [rg]
          repeat apply Exists.intro
          refine ⟨rfl, ?_⟩
          rw [need_iff, need_iff]
          refine ⟨nf, kf, ?_⟩
          try rw [rf]
          repeat apply Exists.intro
          refine ⟨rfl, ?_⟩
          refine br_iff.2 ⟨fun b2 => ?_, fun b2 => ?_⟩
          · simp only [br_iff, need_iff, andB_t, andB_f, orB_t, orB_f, notB_t, notB_f, leI_t, leI_f, ltI_t, ltI_f, eqI_t, eqI_f, leN_t, leN_f, eqN_t, eqN_f, eqS_t, eqS_f, eqB_t, eqB_f, catOk_t, leC_t] at b2
            rw [need_iff, need_iff]
            refine ⟨ng, kg, ?_⟩
            try rw [rg]
            repeat apply Exists.intro
            refine ⟨rfl, ?_⟩
            have fin : (0 < q → ¬ (g.par = f.par ∧ g.name = f.name)) → ∃ m' : Nat, m' < m2 ∧ ∃ (k q' : Nat) (f' : Node), (k' : Int) = (k : Int) ∧ l[k]? = some f' ∧ addI .i64 (q : Int) 1 = (q' : Int) ∧ q' + m' = k ∧ (isDirB g.mode = true ↔ dirTo l f'.par q') ∧ uniqTo l f' q' :=
              fun a => ⟨m2 - 1, by omega, k', q + 1, f, rfl, gf, hadd, by omega, by rw [dir_next gg, hvg]; exact ⟨fun z => .inr ⟨b2, z⟩, fun z => z.elim (fun z => absurd z hnd) (fun z => z.2)⟩, uniq_next huq gg a⟩
            refine ⟨hgg.1, br_iff.2 ⟨fun b3 => ?_, fun b3 => ?_⟩⟩
            · simp only [br_iff, need_iff, andB_t, andB_f, orB_t, orB_f, notB_t, notB_f, leI_t, leI_f, ltI_t, ltI_f, eqI_t, eqI_f, leN_t, leN_f, eqN_t, eqN_f, eqS_t, eqS_f, eqB_t, eqB_f, catOk_t, leC_t] at b3
              rw [need_iff, need_iff]
              refine ⟨ng, kg, ?_⟩
              try rw [rg]
              repeat apply Exists.intro
              refine ⟨rfl, ?_⟩
              rw [need_iff, need_iff]
              refine ⟨nf, kf, ?_⟩
              try rw [rf]
              repeat apply Exists.intro
              refine ⟨rfl, ?_⟩
              refine br_iff.2 ⟨fun b4 => ?_, fun b4 => ?_⟩
              · simp only [br_iff, need_iff, andB_t, andB_f, orB_t, orB_f, notB_t, notB_f, leI_t, leI_f, ltI_t, ltI_f, eqI_t, eqI_f, leN_t, leN_f, eqN_t, eqN_f, eqS_t, eqS_f, eqB_t, eqB_f, catOk_t, leC_t] at b4
                rw [need_iff, need_iff]
                refine ⟨ng, kg, ?_⟩
                try rw [rg]
                repeat apply Exists.intro
                refine ⟨rfl, ?_⟩
                rw [need_iff, need_iff]
                refine ⟨nf, kf, ?_⟩
                try rw [rf]
                repeat apply Exists.intro
                refine ⟨rfl, ?_⟩
                refine br_iff.2 ⟨fun b5 => ?_, fun b5 => ?_⟩
                · simp only [br_iff, need_iff, andB_t, andB_f, orB_t, orB_f, notB_t, notB_f, leI_t, leI_f, ltI_t, ltI_f, eqI_t, eqI_f, leN_t, leN_f, eqN_t, eqN_f, eqS_t, eqS_f, eqB_t, eqB_f, catOk_t, leC_t] at b5
                  exact dup (by omega) b4 b5
                · simp only [br_iff, need_iff, andB_t, andB_f, orB_t, orB_f, notB_t, notB_f, leI_t, leI_f, ltI_t, ltI_f, eqI_t, eqI_f, leN_t, leN_f, eqN_t, eqN_f, eqS_t, eqS_f, eqB_t, eqB_f, catOk_t, leC_t] at b5
                  exact ⟨rfl, fin fun _ a => b5 a.2⟩
              · simp only [br_iff, need_iff, andB_t, andB_f, orB_t, orB_f, notB_t, notB_f, leI_t, leI_f, ltI_t, ltI_f, eqI_t, eqI_f, leN_t, leN_f, eqN_t, eqN_f, eqS_t, eqS_f, eqB_t, eqB_f, catOk_t, leC_t] at b4
                exact ⟨rfl, fin fun _ a => b4 a.1⟩
            · simp only [br_iff, need_iff, andB_t, andB_f, orB_t, orB_f, notB_t, notB_f, leI_t, leI_f, ltI_t, ltI_f, eqI_t, eqI_f, leN_t, leN_f, eqN_t, eqN_f, eqS_t, eqS_f, eqB_t, eqB_f, catOk_t, leC_t] at b3
              exact ⟨rfl, fin fun a => by omega⟩
          · simp only [br_iff, need_iff, andB_t, andB_f, orB_t, orB_f, notB_t, notB_f, leI_t, leI_f, ltI_t, ltI_f, eqI_t, eqI_f, leN_t, leN_f, eqN_t, eqN_f, eqS_t, eqS_f, eqB_t, eqB_f, catOk_t, leC_t] at b2
            have fin : (0 < q → ¬ (g.par = f.par ∧ g.name = f.name)) → ∃ m' : Nat, m' < m2 ∧ ∃ (k q' : Nat) (f' : Node), (k' : Int) = (k : Int) ∧ l[k]? = some f' ∧ addI .i64 (q : Int) 1 = (q' : Int) ∧ q' + m' = k ∧ (false = true ↔ dirTo l f'.par q') ∧ uniqTo l f' q' :=
              fun a => ⟨m2 - 1, by omega, k', q + 1, f, rfl, gf, hadd, by omega, by rw [dir_next gg]; exact ⟨(fun z => by cases z), fun z => z.elim (fun z => absurd z hnd) (fun z => absurd z.1 b2)⟩, uniq_next huq gg a⟩
            refine br_iff.2 ⟨fun b3 => ?_, fun b3 => ?_⟩
            · simp only [br_iff, need_iff, andB_t, andB_f, orB_t, orB_f, notB_t, notB_f, leI_t, leI_f, ltI_t, ltI_f, eqI_t, eqI_f, leN_t, leN_f, eqN_t, eqN_f, eqS_t, eqS_f, eqB_t, eqB_f, catOk_t, leC_t] at b3
              rw [need_iff, need_iff]
              refine ⟨ng, kg, ?_⟩
              try rw [rg]
              repeat apply Exists.intro
              refine ⟨rfl, ?_⟩
              rw [need_iff, need_iff]
              refine ⟨nf, kf, ?_⟩
              try rw [rf]
              repeat apply Exists.intro
              refine ⟨rfl, ?_⟩
              refine br_iff.2 ⟨fun b4 => ?_, fun b4 => ?_⟩
              · simp only [br_iff, need_iff, andB_t, andB_f, orB_t, orB_f, notB_t, notB_f, leI_t, leI_f, ltI_t, ltI_f, eqI_t, eqI_f, leN_t, leN_f, eqN_t, eqN_f, eqS_t, eqS_f, eqB_t, eqB_f, catOk_t, leC_t] at b4
                rw [need_iff, need_iff]
                refine ⟨ng, kg, ?_⟩
                try rw [rg]
                repeat apply Exists.intro
                refine ⟨rfl, ?_⟩
                rw [need_iff, need_iff]
                refine ⟨nf, kf, ?_⟩
                try rw [rf]
                repeat apply Exists.intro
                refine ⟨rfl, ?_⟩
                refine br_iff.2 ⟨fun b5 => ?_, fun b5 => ?_⟩
                · simp only [br_iff, need_iff, andB_t, andB_f, orB_t, orB_f, notB_t, notB_f, leI_t, leI_f, ltI_t, ltI_f, eqI_t, eqI_f, leN_t, leN_f, eqN_t, eqN_f, eqS_t, eqS_f, eqB_t, eqB_f, catOk_t, leC_t] at b5
                  exact dup (by omega) b4 b5
                · simp only [br_iff, need_iff, andB_t, andB_f, orB_t, orB_f, notB_t, notB_f, leI_t, leI_f, ltI_t, ltI_f, eqI_t, eqI_f, leN_t, leN_f, eqN_t, eqN_f, eqS_t, eqS_f, eqB_t, eqB_f, catOk_t, leC_t] at b5
                  exact ⟨rfl, fin fun _ a => b5 a.2⟩
              · simp only [br_iff, need_iff, andB_t, andB_f, orB_t, orB_f, notB_t, notB_f, leI_t, leI_f, ltI_t, ltI_f, eqI_t, eqI_f, leN_t, leN_f, eqN_t, eqN_f, eqS_t, eqS_f, eqB_t, eqB_f, catOk_t, leC_t] at b4
                exact ⟨rfl, fin fun _ a => b4 a.1⟩
            · simp only [br_iff, need_iff, andB_t, andB_f, orB_t, orB_f, notB_t, notB_f, leI_t, leI_f, ltI_t, ltI_f, eqI_t, eqI_f, leN_t, leN_f, eqN_t, eqN_f, eqS_t, eqS_f, eqB_t, eqB_f, catOk_t, leC_t] at b3
              exact ⟨rfl, fin fun a => by omega⟩
      · have hqk : q = k' := by simp only [br_iff, need_iff, andB_t, andB_f, orB_t, orB_f, notB_t, notB_f, leI_t, leI_f, ltI_t, ltI_f, eqI_t, eqI_f, leN_t, leN_f, eqN_t, eqN_f, eqS_t, eqS_f, eqB_t, eqB_f, catOk_t, leC_t] at hge2; omega
        subst hqk
        refine br_iff.2 ⟨fun b1 => no fun z => ?_, fun b1 => ⟨by trivial, m - 1, by omega, q + 1, by rw [addI_i64 (by omega) (by omega)]; omega, by omega, by omega, ?_⟩⟩ <;> simp only [br_iff, need_iff, andB_t, andB_f, orB_t, orB_f, notB_t, notB_f, leI_t, leI_f, ltI_t, ltI_f, eqI_t, eqI_f, leN_t, leN_f, eqN_t, eqN_f, eqS_t, eqS_f, eqB_t, eqB_f, catOk_t, leC_t] at b1
        · have := hdir.2 ((z.2.2.2 q f gf).2.2.2 hk1).2.1
          rw [b1] at this; cases this
        · refine goodQ_succ hp gf ⟨e4, by omega, fun z => by omega, fun _ => ⟨e3, hdir.1 b1, huq, fun j y hj gy => ?_⟩⟩
          obtain rfl : j = w0 := by omega
          obtain rfl := Option.some.inj (gp.symm.trans gy)
          omega
    · have : k = l.length := by simp only [br_iff, need_iff, andB_t, andB_f, orB_t, orB_f, notB_t, notB_f, leI_t, leI_f, ltI_t, ltI_f, eqI_t, eqI_f, leN_t, leN_f, eqN_t, eqN_f, eqS_t, eqS_f, eqB_t, eqB_f, catOk_t, leC_t] at hge; omega
      subst this
      have hgood : goodT nx l := ⟨by omega, by omega, by omega, fun j x gx => by
        have hj := (List.getElem?_eq_some_iff.1 gx).1
        refine okN_of (hp j x hj gx) ?_
        rcases Nat.lt_or_ge j kl with h1 | h1
        · have := goodQ_asc hp h1 (by omega) gx gz; omega
        · obtain rfl : j = kl := by omega
          obtain rfl := Option.some.inj (gz.symm.trans gx)
          omega⟩
      rw [rightT_yes hgood] at hK; exact hK
  · exact h.elim
end Go.Proofs.Ytepehbbagbfmcaa
