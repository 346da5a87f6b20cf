/- Leases: conditions of the removal. -/
import Derived.Test.YthhpdnlfhofanaaGreatDoorPlSmall
namespace Go.Proofs.YthhpdnlfhofanaaGreatDoor
open Go.RowKit
set_option maxRecDepth 100000
set_option linter.unusedVariables false
set_option linter.unusedSimpArgs false
structure dlC where
  k : Nat
  m : Nat
  now : Int
structure dlX where
  ys : List (List V)
  i : Int
  j : Int
def dlSt (c : dlC) (x : dlX) : St := ⟨[(0, .ref 0 0 c.k c.m), (1, .func 155 [] [.ptr 1 0 0]), (5, .int .i64 x.i), (6, .int .i64 x.j)], [(0, ⟨true, false, true, x.ys, 0⟩), (1, ⟨true, true, true, [[.int .i64 c.now]], 0⟩)]⟩
set_option maxHeartbeats 4000000 in
def dlUn (s : St) : Option (dlC × dlX) :=
  match s with
  | ⟨[(q0, .ref q1 q2 k m), (q3, .func q4 [] [.ptr q5 q6 q7]), (q8, .int .i64 i), (q9, .int .i64 j)], [(q10, ⟨true, false, true, ys, q11⟩), (q12, ⟨true, true, true, [[.int .i64 now]], q13⟩)]⟩ => bif Nat.beq q0 0 && Nat.beq q1 0 && Nat.beq q2 0 && Nat.beq q3 1 && Nat.beq q4 155 && Nat.beq q5 1 && Nat.beq q6 0 && Nat.beq q7 0 && Nat.beq q8 5 && Nat.beq q9 6 && Nat.beq q10 0 && Nat.beq q11 0 && Nat.beq q12 1 && Nat.beq q13 0 then some (⟨k, m, now⟩, ⟨ys, i, j⟩) else none
  | _ => none
set_option maxHeartbeats 4000000 in
def dlL (inv : dlC → dlX → dlX → Nat → Prop) : LoopS where
  C := dlC
  X := dlX
  st := dlSt
  un := dlUn
  ok := by
    intro s c x h
    unfold dlUn at h
    split at h
    · simp only [Bool.cond_eq_ite] at h
      split at h
      · rename_i hg
        simp only [Bool.and_eq_true, Nat.beq_eq] at hg
        obtain ⟨⟨⟨⟨⟨⟨⟨⟨⟨⟨⟨⟨⟨rfl, rfl⟩, rfl⟩, rfl⟩, rfl⟩, rfl⟩, rfl⟩, rfl⟩, rfl⟩, rfl⟩, rfl⟩, rfl⟩, rfl⟩, rfl⟩ := hg
        cases h
        rfl
      · cases h
    · cases h
  inv := inv

theorem dl_vc [MaxL] (k m : Nat) (ys : List (List V)) (now : Int) (I : dlC → dlX → dlX → Nat → Prop) (K : V → List Bk → Prop) : vcF Tryz.prog cfgN (ctOf [(155, c1Con), (156, irCon)]) (lpOf [(5, dlL I)]) 221 [.ref 0 0 k m, .func 155 [] [.ptr 1 0 0]] [⟨true, false, true, ys, 0⟩, ⟨true, true, true, [[.int .i64 now]], 0⟩] K = (
  ∃ L7 : List Lease, ((ys : List (List V)) = leaseV L7) ∧ (
  (((k : Nat) ≤ L7.length)) ∧ (
  (((L7.length : Nat) ≤ 100000)) ∧ (
  ∀ i8 : Int, (isIdx (exF now) (List.take k L7) i8) → (
  br (eqI i8 (-1)) (
    K (V.ref 0 0 k m) [Bk.mk true false true ys 0, Bk.mk true true true [[V.int IntKind.i64 now]] 0]) (
    (∃ m9 : Nat, (((m9 : Nat) < 18446744073709551616)) ∧ (
    I (dlC.mk k m now) (dlX.mk ys i8 (addI IntKind.i64 i8 1)) (dlX.mk ys i8 (addI IntKind.i64 i8 1)) m9)) ∧ (
    ∀ x9 : (dlL I).X, ∀ m10 : Nat, (I (dlC.mk k m now) (dlX.mk ys i8 (addI IntKind.i64 i8 1)) x9 m10) → (
    br (ltI x9.3 (Int.ofNat k)) (
      need (andB (leI 0 x9.3) (ltI x9.3 (Int.ofNat k))) (
      need (okRow x9.1 (0 + x9.3.toNat) 4) (
      ∃ n11 : Int, ∃ n12 : Int, ∃ n13 : Int, ∃ n14 : Int, ((partAt x9.1 (0 + x9.3.toNat) 0 4 : Option (List V)) = some [V.int IntKind.i64 n11, V.int IntKind.i64 n12, V.int IntKind.i64 n13, V.int IntKind.i64 n14]) ∧ (
      ∃ x15 : Lease, (([V.int IntKind.i64 n11, V.int IntKind.i64 n12, V.int IntKind.i64 n13, V.int IntKind.i64 n14] : List V) = [V.int IntKind.i64 x15.1, V.int IntKind.i64 x15.2, V.int IntKind.i64 x15.3, V.int IntKind.i64 x15.4]) ∧ (
      br (notB (exF now x15)) (
        need (andB (leI 0 x9.2) (ltI x9.2 (Int.ofNat k))) (
        need (okRow x9.1 (0 + x9.2.toNat) 4) (
        ∃ xs16 : List (List V), ((putAt x9.1 (0 + x9.2.toNat) 0 [V.int IntKind.i64 n11, V.int IntKind.i64 n12, V.int IntKind.i64 n13, V.int IntKind.i64 n14] : Option (List (List V))) = some xs16) ∧ (
        ((dlC.mk k m now : (dlL I).C) = dlC.mk k m now) ∧ (
        ∃ m'17 : Nat, (((m'17 : Nat) < m10)) ∧ (
        I (dlC.mk k m now) (dlX.mk ys i8 (addI IntKind.i64 i8 1)) (dlX.mk xs16 (addI IntKind.i64 x9.2 1) (addI IntKind.i64 x9.3 1)) m'17)))))) (
        ((dlC.mk k m now : (dlL I).C) = dlC.mk k m now) ∧ (
        ∃ m'16 : Nat, (((m'16 : Nat) < m10)) ∧ (
        I (dlC.mk k m now) (dlX.mk ys i8 (addI IntKind.i64 i8 1)) (dlX.mk x9.1 x9.2 (addI IntKind.i64 x9.3 1)) m'16)))))))) (
      need (headOkP 4 x9.1) (
      need (andB (leI 0 x9.2) (leI x9.2 (Int.ofNat k))) (
      need (headOkP 4 x9.1) (
      need (headOkP 4 (List.take (0 + x9.2.toNat) x9.1 ++ List.replicate ((Int.ofNat k).toNat - x9.2.toNat) [V.int IntKind.i64 0, V.int IntKind.i64 0, V.int IntKind.i64 0, V.int IntKind.i64 0] ++ List.drop (0 + x9.2.toNat + ((Int.ofNat k).toNat - x9.2.toNat)) x9.1)) (
      need (andB (leI 0 x9.2) (leI x9.2 (Int.ofNat m))) (
      K (V.ref 0 0 (x9.2.toNat - 0) (m - 0)) [Bk.mk true false true (List.take (0 + x9.2.toNat) x9.1 ++ List.replicate ((Int.ofNat k).toNat - x9.2.toNat) [V.int IntKind.i64 0, V.int IntKind.i64 0, V.int IntKind.i64 0, V.int IntKind.i64 0] ++ List.drop (0 + x9.2.toNat + ((Int.ofNat k).toNat - x9.2.toNat)) x9.1) 0, Bk.mk true true true [[V.int IntKind.i64 now]] 0])))))))))))))) := by kernel_rfl

def delCon : Con := fun vs bs K => match vs, bs with
  | [.ref 0 0 k m, .func 155 [] [.ptr 1 0 0]], [⟨true, false, true, ys, 0⟩, ⟨true, true, true, [[.int .i64 now]], 0⟩] => ∃ L : List Lease, ys = leaseV L ∧ k = L.length ∧ k ≤ m ∧ k ≤ 100000 ∧ ∀ (zs : List (List V)) (i : Nat), isClean L now zs i → K (.ref 0 0 i m) [⟨true, false, true, zs, 0⟩, ⟨true, true, true, [[.int .i64 now]], 0⟩]
  | _, _ => False

def witCon : Con := fun vs bs K => match vs, bs with
  | [.lst ys, .func 155 [] [.ptr 0 0 0]], [⟨true, true, true, [[.int .i64 now]], 0⟩] => ∃ L : List Lease, ys = leaseV L ∧ L.length ≤ 100000 ∧ ∀ (zs : List (List V)) (i : Nat), isClean L now zs i → K (.ref 1 0 i L.length) [⟨true, true, true, [[.int .i64 now]], 0⟩, ⟨true, false, true, zs, 0⟩]
  | _, _ => False

theorem wt_vc [MaxL] (ys : List (List V)) (now : Int) (K : V → List Bk → Prop) : vcF Tryz.prog cfgN (ctOf [(221, delCon)]) (lpOf []) 154 [.lst ys, .func 155 [] [.ptr 0 0 0]] [⟨true, true, true, [[.int .i64 now]], 0⟩] K = (
  need (headOkP 4 ys) (
  need (leN (ys.length * 32) 140737488355328) (
  ∃ L4 : List Lease, ((ys : List (List V)) = leaseV L4) ∧ (
  ((ys.length : Nat) = L4.length) ∧ (
  (((ys.length : Nat) ≤ ys.length)) ∧ (
  (((ys.length : Nat) ≤ 100000)) ∧ (
  ∀ zs5 : List (List V), ∀ i6 : Nat, (isClean L4 now zs5 i6) → (
  K (V.ref 1 0 i6 ys.length) [Bk.mk true true true [[V.int IntKind.i64 now]] 0, Bk.mk true false true zs5 0])))))))) := by kernel_rfl

theorem cl_vc [MaxL] (ys : List (List V)) (now : Int) (K : V → List Bk → Prop) : vcF Tryz.prog cfgN (ctOf [(154, witCon)]) (lpOf []) 81 [.lst ys, .int .i64 now] [] K = (
  ∃ L4 : List Lease, ((ys : List (List V)) = leaseV L4) ∧ (
  (((L4.length : Nat) ≤ 100000)) ∧ (
  ∀ zs5 : List (List V), ∀ i6 : Nat, (isClean L4 now zs5 i6) → (
  K (V.ref 0 0 i6 L4.length) [Bk.mk true false true zs5 0])))) := by kernel_rfl

end Go.Proofs.YthhpdnlfhofanaaGreatDoor
namespace Go.Proofs.YthhpdnlfhofanaaGreatDoor
open Go.RowKit
set_option maxRecDepth 100000
set_option linter.unusedVariables false
set_option linter.unusedSimpArgs false
def clCon : Con := fun vs bs K => match vs, bs with
  | [.lst ys, .int .i64 now], [] => ∃ L : List Lease, ys = leaseV L ∧ L.length ≤ 100000 ∧ ∀ (zs : List (List V)) (i : Nat), isClean L now zs i → K (.ref 0 0 i L.length) [⟨true, false, true, zs, 0⟩]
  | _, _ => False

def bsCon : Con := fun vs bs K => match vs, bs with
  | [.ref 0 0 k m, .agg r, .func 86 [] []], [⟨true, false, true, ys, 0⟩] => ∃ L : List Lease, ∃ x : Lease, ys = leaseV L ∧ r = Lease.v x ∧ k ≤ L.length ∧ L.length ≤ 100000 ∧ sortedP (L.take k) ∧ ∀ (i : Int) (b : Bool), isFound (L.take k) x i b → K (.tup [.int .i64 i, .bool b]) [⟨true, false, true, ys, 0⟩]
  | _, _ => False

structure bsC where
  k : Nat
  m : Nat
  ys : List (List V)
  c1 : Int
  i1 : Int
  k1 : Int
  u1 : Int
  cnt : Int
structure bsX where
  i : Int
  j : Int
def bsSt (c : bsC) (x : bsX) : St := ⟨[(0, .ref 0 0 c.k c.m), (2, .func 86 [] []), (4, .ptr 1 0 0), (8, .int .i64 c.cnt), (9, .int .i64 x.i), (10, .int .i64 x.j)], [(0, ⟨true, false, true, c.ys, 0⟩), (1, ⟨true, true, true, [[.int .i64 c.c1, .int .i64 c.i1, .int .i64 c.k1, .int .i64 c.u1]], 0⟩)]⟩
set_option maxHeartbeats 4000000 in
def bsUn (s : St) : Option (bsC × bsX) :=
  match s with
  | ⟨[(q0, .ref q1 q2 k m), (q3, .func q4 [] []), (q5, .ptr q6 q7 q8), (q9, .int .i64 cnt), (q10, .int .i64 i), (q11, .int .i64 j)], [(q12, ⟨true, false, true, ys, q13⟩), (q14, ⟨true, true, true, [[.int .i64 c1, .int .i64 i1, .int .i64 k1, .int .i64 u1]], q15⟩)]⟩ => bif Nat.beq q0 0 && Nat.beq q1 0 && Nat.beq q2 0 && Nat.beq q3 2 && Nat.beq q4 86 && Nat.beq q5 4 && Nat.beq q6 1 && Nat.beq q7 0 && Nat.beq q8 0 && Nat.beq q9 8 && Nat.beq q10 9 && Nat.beq q11 10 && Nat.beq q12 0 && Nat.beq q13 0 && Nat.beq q14 1 && Nat.beq q15 0 then some (⟨k, m, ys, c1, i1, k1, u1, cnt⟩, ⟨i, j⟩) else none
  | _ => none
set_option maxHeartbeats 4000000 in
def bsL (inv : bsC → bsX → bsX → Nat → Prop) : LoopS where
  C := bsC
  X := bsX
  st := bsSt
  un := bsUn
  ok := by
    intro s c x h
    unfold bsUn at h
    split at h
    · simp only [Bool.cond_eq_ite] at h
      split at h
      · rename_i hg
        simp only [Bool.and_eq_true, Nat.beq_eq] at hg
        obtain ⟨⟨⟨⟨⟨⟨⟨⟨⟨⟨⟨⟨⟨⟨⟨rfl, rfl⟩, rfl⟩, rfl⟩, rfl⟩, rfl⟩, rfl⟩, rfl⟩, rfl⟩, rfl⟩, rfl⟩, rfl⟩, rfl⟩, rfl⟩, rfl⟩, rfl⟩ := hg
        cases h
        rfl
      · cases h
    · cases h
  inv := inv

structure rlC where
  ys : List (List V)
structure rlX where
  i : Int
def rlSt (c : rlC) (x : rlX) : St := ⟨[(0, .lst c.ys), (3, .int .i64 x.i)], []⟩
set_option maxHeartbeats 4000000 in
def rlUn (s : St) : Option (rlC × rlX) :=
  match s with
  | ⟨[(q0, .lst ys), (q1, .int .i64 i)], []⟩ => bif Nat.beq q0 0 && Nat.beq q1 3 then some (⟨ys⟩, ⟨i⟩) else none
  | _ => none
set_option maxHeartbeats 4000000 in
def rlL (inv : rlC → rlX → rlX → Nat → Prop) : LoopS where
  C := rlC
  X := rlX
  st := rlSt
  un := rlUn
  ok := by
    intro s c x h
    unfold rlUn at h
    split at h
    · simp only [Bool.cond_eq_ite] at h
      split at h
      · rename_i hg
        simp only [Bool.and_eq_true, Nat.beq_eq] at hg
        obtain ⟨rfl, rfl⟩ := hg
        cases h
        rfl
      · cases h
    · cases h
  inv := inv

theorem bs_vc [MaxL] (k m : Nat) (ys : List (List V)) (c1 i1 k1 u1 : Int) (I : bsC → bsX → bsX → Nat → Prop) (K : V → List Bk → Prop) : vcF Tryz.prog cfgN (ctOf [(86, orCon)]) (lpOf [(3, bsL I)]) 85 [.ref 0 0 k m, .agg [.int .i64 c1, .int .i64 i1, .int .i64 k1, .int .i64 u1], .func 86 [] []] [⟨true, false, true, ys, 0⟩] K = (
  (∃ m10 : Nat, (((m10 : Nat) < 18446744073709551616)) ∧ (
  I (bsC.mk k m ys c1 i1 k1 u1 (Int.ofNat k)) (bsX.mk 0 (Int.ofNat k)) (bsX.mk 0 (Int.ofNat k)) m10)) ∧ (
  ∀ x10 : (bsL I).X, ∀ m11 : Nat, (I (bsC.mk k m ys c1 i1 k1 u1 (Int.ofNat k)) (bsX.mk 0 (Int.ofNat k)) x10 m11) → (
  br (ltI x10.1 x10.2) (
    need (andB (leI 0 (wrapI IntKind.i64 (shrI IntKind.u64 (wrapI IntKind.u64 (addI IntKind.i64 x10.1 x10.2)) 1))) (ltI (wrapI IntKind.i64 (shrI IntKind.u64 (wrapI IntKind.u64 (addI IntKind.i64 x10.1 x10.2)) 1)) (Int.ofNat k))) (
    need (okRow ys (0 + (wrapI IntKind.i64 (shrI IntKind.u64 (wrapI IntKind.u64 (addI IntKind.i64 x10.1 x10.2)) 1)).toNat) 4) (
    ∃ n12 : Int, ∃ n13 : Int, ∃ n14 : Int, ∃ n15 : Int, ((partAt ys (0 + (wrapI IntKind.i64 (shrI IntKind.u64 (wrapI IntKind.u64 (addI IntKind.i64 x10.1 x10.2)) 1)).toNat) 0 4 : Option (List V)) = some [V.int IntKind.i64 n12, V.int IntKind.i64 n13, V.int IntKind.i64 n14, V.int IntKind.i64 n15]) ∧ (
    br (ltI (ordF (Lease.mk n12 n13 n14 n15) (Lease.mk c1 i1 k1 u1)) 0) (
      ((bsC.mk k m ys c1 i1 k1 u1 (Int.ofNat k) : (bsL I).C) = bsC.mk k m ys c1 i1 k1 u1 (Int.ofNat k)) ∧ (
      ∃ m'16 : Nat, (((m'16 : Nat) < m11)) ∧ (
      I (bsC.mk k m ys c1 i1 k1 u1 (Int.ofNat k)) (bsX.mk 0 (Int.ofNat k)) (bsX.mk (addI IntKind.i64 (wrapI IntKind.i64 (shrI IntKind.u64 (wrapI IntKind.u64 (addI IntKind.i64 x10.1 x10.2)) 1)) 1) x10.2) m'16))) (
      ((bsC.mk k m ys c1 i1 k1 u1 (Int.ofNat k) : (bsL I).C) = bsC.mk k m ys c1 i1 k1 u1 (Int.ofNat k)) ∧ (
      ∃ m'16 : Nat, (((m'16 : Nat) < m11)) ∧ (
      I (bsC.mk k m ys c1 i1 k1 u1 (Int.ofNat k)) (bsX.mk 0 (Int.ofNat k)) (bsX.mk x10.1 (wrapI IntKind.i64 (shrI IntKind.u64 (wrapI IntKind.u64 (addI IntKind.i64 x10.1 x10.2)) 1))) m'16))))))) (
    br (ltI x10.1 (Int.ofNat k)) (
      need (andB (leI 0 x10.1) (ltI x10.1 (Int.ofNat k))) (
      need (okRow ys (0 + x10.1.toNat) 4) (
      ∃ n12 : Int, ∃ n13 : Int, ∃ n14 : Int, ∃ n15 : Int, ((partAt ys (0 + x10.1.toNat) 0 4 : Option (List V)) = some [V.int IntKind.i64 n12, V.int IntKind.i64 n13, V.int IntKind.i64 n14, V.int IntKind.i64 n15]) ∧ (
      K (V.tup [V.int IntKind.i64 x10.1, V.bool (eqI (ordF (Lease.mk n12 n13 n14 n15) (Lease.mk c1 i1 k1 u1)) 0)]) [Bk.mk true false true ys 0])))) (
      K (V.tup [V.int IntKind.i64 x10.1, V.bool false]) [Bk.mk true false true ys 0]))))) := by kernel_rfl

theorem rl_vc [MaxL] (ys : List (List V)) (I : rlC → rlX → rlX → Nat → Prop) (K : V → List Bk → Prop) : vcF Tryz.prog cfgN (ctOf [(75, inCon), (76, kiCon), (77, beCon)]) (lpOf [(2, rlL I)]) 23 [.lst ys] [] K = (
  (∃ m4 : Nat, (((m4 : Nat) < 18446744073709551616)) ∧ (
  I (rlC.mk ys) (rlX.mk 0) (rlX.mk 0) m4)) ∧ (
  ∀ x4 : (rlL I).X, ∀ m5 : Nat, (I (rlC.mk ys) (rlX.mk 0) x4 m5) → (
  br (ltI x4.1 (lenL ys)) (
    need (andB (leI 0 x4.1) (ltI x4.1 (lenL ys))) (
    need (okRow ys x4.1.toNat 4) (
    ∃ n6 : Int, ((sub (rowAt ys x4.1) 1 1 : Option (List V)) = some [V.int IntKind.i64 n6]) ∧ (
    br (notB (inI n6 1 1099511627776)) (
      K (V.bool false) []) (
      need (andB (leI 0 x4.1) (ltI x4.1 (lenL ys))) (
      need (okRow ys x4.1.toNat 4) (
      ∃ n7 : Int, ((sub (rowAt ys x4.1) 0 1 : Option (List V)) = some [V.int IntKind.i64 n7]) ∧ (
      br (notB (inI n7 1 1099511627776)) (
        K (V.bool false) []) (
        need (andB (leI 0 x4.1) (ltI x4.1 (lenL ys))) (
        need (okRow ys x4.1.toNat 4) (
        ∃ n8 : Int, ((sub (rowAt ys x4.1) 2 1 : Option (List V)) = some [V.int IntKind.i64 n8]) ∧ (
        br (notB (kOk n8)) (
          K (V.bool false) []) (
          need (andB (leI 0 x4.1) (ltI x4.1 (lenL ys))) (
          need (okRow ys x4.1.toNat 4) (
          ∃ n9 : Int, ((sub (rowAt ys x4.1) 3 1 : Option (List V)) = some [V.int IntKind.i64 n9]) ∧ (
          br (notB (inI n9 0 1099512676352)) (
            K (V.bool false) []) (
            br (ltI 0 x4.1) (
              need (andB (leI 0 (subI IntKind.i64 x4.1 1)) (ltI (subI IntKind.i64 x4.1 1) (lenL ys))) (
              need (okRow ys (subI IntKind.i64 x4.1 1).toNat 4) (
              ∃ n10 : Int, ∃ n11 : Int, ∃ n12 : Int, ∃ n13 : Int, ((sub (rowAt ys (subI IntKind.i64 x4.1 1)) 0 4 : Option (List V)) = some [V.int IntKind.i64 n10, V.int IntKind.i64 n11, V.int IntKind.i64 n12, V.int IntKind.i64 n13]) ∧ (
              need (andB (leI 0 x4.1) (ltI x4.1 (lenL ys))) (
              need (okRow ys x4.1.toNat 4) (
              ∃ n14 : Int, ∃ n15 : Int, ∃ n16 : Int, ∃ n17 : Int, ((sub (rowAt ys x4.1) 0 4 : Option (List V)) = some [V.int IntKind.i64 n14, V.int IntKind.i64 n15, V.int IntKind.i64 n16, V.int IntKind.i64 n17]) ∧ (
              br (notB (ltL (Lease.mk n10 n11 n12 n13) (Lease.mk n14 n15 n16 n17))) (
                K (V.bool false) []) (
                ((rlC.mk ys : (rlL I).C) = rlC.mk ys) ∧ (
                ∃ m'18 : Nat, (((m'18 : Nat) < m5)) ∧ (
                I (rlC.mk ys) (rlX.mk 0) (rlX.mk (addI IntKind.i64 x4.1 1)) m'18)))))))))) (
              ((rlC.mk ys : (rlL I).C) = rlC.mk ys) ∧ (
              ∃ m'10 : Nat, (((m'10 : Nat) < m5)) ∧ (
              I (rlC.mk ys) (rlX.mk 0) (rlX.mk (addI IntKind.i64 x4.1 1)) m'10)))))))))))))))))))) (
    K (V.bool (leI (lenL ys) 64)) [])))) := by kernel_rfl

theorem gr_vc [MaxL] (ys : List (List V)) (conn id term now : Int) (K : V → List Bk → Prop) : vcF Tryz.prog cfgN (ctOf [(78, inCon), (79, kiCon), (81, clCon), (82, inlC Tryz.prog cfgN (ctOf [(156, igCon)]) 82), (85, bsCon)]) (lpOf []) 24 [.lst ys, .int .i64 conn, .int .i64 id, .int .i64 1, .int .i64 term, .int .i64 now] [] K = (
  br (notB (inI conn 1 1099511627776)) (
    need (headOkP 4 ys) (
    need (leN (ys.length * 32) 140737488355328) (
    K (V.tup [V.lst (List.take ys.length (List.drop 0 ys)), V.int IntKind.i64 0, V.int IntKind.i64 1]) []))) (
    br (notB (inI id 1 1099511627776)) (
      need (headOkP 4 ys) (
      need (leN (ys.length * 32) 140737488355328) (
      K (V.tup [V.lst (List.take ys.length (List.drop 0 ys)), V.int IntKind.i64 0, V.int IntKind.i64 1]) []))) (
      br (notB (inI term 1 1048576)) (
        need (headOkP 4 ys) (
        need (leN (ys.length * 32) 140737488355328) (
        K (V.tup [V.lst (List.take ys.length (List.drop 0 ys)), V.int IntKind.i64 0, V.int IntKind.i64 1]) []))) (
        br (notB (inI now 0 1099511627776)) (
          need (headOkP 4 ys) (
          need (leN (ys.length * 32) 140737488355328) (
          K (V.tup [V.lst (List.take ys.length (List.drop 0 ys)), V.int IntKind.i64 0, V.int IntKind.i64 1]) []))) (
          ∃ L7 : List Lease, ((ys : List (List V)) = leaseV L7) ∧ (
          (((L7.length : Nat) ≤ 100000)) ∧ (
          ∀ zs8 : List (List V), ∀ i9 : Nat, (isClean L7 now zs8 i9) → (
          ∃ L10 : List Lease, ((zs8 : List (List V)) = leaseV L10) ∧ (
          (((i9 : Nat) ≤ L10.length)) ∧ (
          (((L10.length : Nat) ≤ 100000)) ∧ (
          ∀ i11 : Int, (isIdx (cfF (Lease.mk conn id 1 (addI IntKind.i64 now term))) (List.take i9 L10) i11) → (
          br (leI 0 i11) (
            need (headOkP 4 ys) (
            need (leN (ys.length * 32) 140737488355328) (
            K (V.tup [V.lst (List.take ys.length (List.drop 0 ys)), V.int IntKind.i64 0, V.int IntKind.i64 32]) []))) (
            ∃ L12 : List Lease, ∃ x13 : Lease, ((zs8 : List (List V)) = leaseV L12) ∧ (
            (([V.int IntKind.i64 conn, V.int IntKind.i64 id, V.int IntKind.i64 1, V.int IntKind.i64 (addI IntKind.i64 now term)] : List V) = [V.int IntKind.i64 x13.1, V.int IntKind.i64 x13.2, V.int IntKind.i64 x13.3, V.int IntKind.i64 x13.4]) ∧ (
            (((i9 : Nat) ≤ L12.length)) ∧ (
            (((L12.length : Nat) ≤ 100000)) ∧ (
            (sortedP (List.take i9 L12)) ∧ (
            ∀ i14 : Int, ∀ b15 : Bool, (isFound (List.take i9 L12) x13 i14 b15) → (
            br (b15) (
              need (andB (leI 0 i14) (ltI i14 (Int.ofNat i9))) (
              need (okRow zs8 (0 + i14.toNat) 4) (
              ∃ xs16 : List (List V), ((putAt zs8 (0 + i14.toNat) 0 [V.int IntKind.i64 conn, V.int IntKind.i64 id, V.int IntKind.i64 1, V.int IntKind.i64 (addI IntKind.i64 now term)] : Option (List (List V))) = some xs16) ∧ (
              K (V.tup [V.lst (List.take i9 (List.drop 0 xs16)), V.int IntKind.i64 (addI IntKind.i64 now term), V.int IntKind.i64 0]) [])))) (
              br (leI 64 (Int.ofNat i9)) (
                need (headOkP 4 ys) (
                need (leN (ys.length * 32) 140737488355328) (
                K (V.tup [V.lst (List.take ys.length (List.drop 0 ys)), V.int IntKind.i64 0, V.int IntKind.i64 22]) []))) (
                need (headOkP 4 zs8) (
                need (andB (leI 0 i14) (leI i14 (Int.ofNat i9))) (
                need (leN ((i9 + 1) * 32) 140737488355328) (
                br (leN (i9 + 1) L7.length) (
                  K (V.tup [V.lst (List.take (i9 + 1) (List.drop 0 (List.take (0 + i14.toNat) zs8 ++ [V.int IntKind.i64 conn, V.int IntKind.i64 id, V.int IntKind.i64 1, V.int IntKind.i64 (addI IntKind.i64 now term)] :: List.drop i14.toNat (List.take i9 (List.drop 0 zs8)) ++ List.drop (0 + i9 + 1) zs8))), V.int IntKind.i64 (addI IntKind.i64 now term), V.int IntKind.i64 0]) []) (
                  need (eqN (0 + i9) zs8.length) (
                  K (V.tup [V.lst (List.take (i9 + 1) (List.drop 0 (List.take i14.toNat (List.take i9 (List.drop 0 zs8)) ++ [V.int IntKind.i64 conn, V.int IntKind.i64 id, V.int IntKind.i64 1, V.int IntKind.i64 (addI IntKind.i64 now term)] :: List.drop i14.toNat (List.take i9 (List.drop 0 zs8))))), V.int IntKind.i64 (addI IntKind.i64 now term), V.int IntKind.i64 0]) [])))))))))))))))))))))))))) := by kernel_rfl

end Go.Proofs.YthhpdnlfhofanaaGreatDoor
namespace Go.Proofs.YthhpdnlfhofanaaGreatDoor
open Go.RowKit
set_option maxRecDepth 100000
set_option linter.unusedVariables false
set_option linter.unusedSimpArgs false
theorem dl_con [MaxL] {n : Nat} (hn : 3 ≤ n) : ConOk (evalF Tryz.prog cfgN n) 221 delCon := by
  intro vs bs K h
  unfold delCon at h
  split at h
  · rename_i k m ys now
    obtain ⟨L, rfl, rfl, hm, hb, hK⟩ := h
    refine run_of (lp := lpOf [(5, dlL fun _ _ x q => ∃ (M : List Lease) (i j : Nat), x.ys = leaseV M ∧ x.i = i ∧ x.j = j ∧ j + q = L.length ∧ delI L now M i j)]) (by omega) (ct := ctOf [(155, c1Con), (156, irCon)]) (fun q hq => ctOf_ok (ctOf_cons (c1_con (by omega)) (ctOf_cons (ir_con (by omega)) (ctOf_nil _)))) ?_
    rw [dl_vc]
    refine ⟨L, rfl, Nat.le_refl _, hb, ?_⟩
    rw [List.take_length]
    intro i0 hi0
    rw [br_iff]
    refine ⟨fun g => ?_, fun g => ?_⟩
    · simp only [br_iff, need_iff, andB_t, andB_f, orB_t, orB_f, notB_t, notB_f, leI_t, leI_f, ltI_t, ltI_f, eqI_t, eqI_f, leN_t, leN_f, eqN_t, eqN_f, eqS_t, eqS_f, eqB_t, eqB_f, catOk_t, leC_t] at g
      subst g
      rcases hi0 with ⟨_, h0⟩ | ⟨k, e, _⟩
      · exact hK _ _ ⟨L, rfl, rfl, Nat.le_refl _, by rw [List.take_length, keep_id h0]⟩
      · omega
    · simp only [br_iff, need_iff, andB_t, andB_f, orB_t, orB_f, notB_t, notB_f, leI_t, leI_f, ltI_t, ltI_f, eqI_t, eqI_f, leN_t, leN_f, eqN_t, eqN_f, eqS_t, eqS_f, eqB_t, eqB_f, catOk_t, leC_t] at g
      rcases hi0 with ⟨e, _⟩ | ⟨k, rfl, hp, x, hx, px⟩
      · exact absurd e g
      have hk : k < L.length := (List.getElem?_eq_some_iff.1 hx).1
      refine ⟨⟨L.length - (k + 1), by omega, L, k, k + 1, rfl, rfl, by dsimp only; rw [addI_i64 (by omega) (by omega)]; omega, by omega, del_start hp hx px⟩, ?_⟩
      rintro ⟨zs, i, j⟩ q ⟨M, i, j, rfl, rfl, rfl, hj, hI⟩
      dsimp only
      have hI0 := hI
      obtain ⟨hl, hij, hjl, _, _⟩ := hI0
      rw [br_iff]
      refine ⟨fun hlt => ?_, fun hge => ?_⟩
      · have hlt : j < L.length := by simp only [br_iff, need_iff, andB_t, andB_f, orB_t, orB_f, notB_t, notB_f, leI_t, leI_f, ltI_t, ltI_f, eqI_t, eqI_f, leN_t, leN_f, eqN_t, eqN_f, eqS_t, eqS_f, eqB_t, eqB_f, catOk_t, leC_t, Int.ofNat_eq_natCast] at hlt; omega
        obtain ⟨y, hy, hyl⟩ := del_get hI hlt
        rw [need_iff]; refine ⟨by simp only [br_iff, need_iff, andB_t, andB_f, orB_t, orB_f, notB_t, notB_f, leI_t, leI_f, ltI_t, ltI_f, eqI_t, eqI_f, leN_t, leN_f, eqN_t, eqN_f, eqS_t, eqS_f, eqB_t, eqB_f, catOk_t, leC_t, Int.ofNat_eq_natCast]; omega, ?_⟩
        rw [need_iff]; refine ⟨by simpa using leaseV_ok (l := M) (i := j) (by omega), ?_⟩
        refine ⟨y.conn, y.id, y.kind, y.til, by simp only [Nat.zero_add, Int.toNat_natCast, leaseV_part hy]; rfl, y, rfl, ?_⟩
        rw [br_iff]
        refine ⟨fun g => ?_, fun g => ?_⟩
        · have g : exF now y = false := by simpa [notB] using g
          rw [need_iff]; refine ⟨by simp only [br_iff, need_iff, andB_t, andB_f, orB_t, orB_f, notB_t, notB_f, leI_t, leI_f, ltI_t, ltI_f, eqI_t, eqI_f, leN_t, leN_f, eqN_t, eqN_f, eqS_t, eqS_f, eqB_t, eqB_f, catOk_t, leC_t, Int.ofNat_eq_natCast]; omega, ?_⟩
          rw [need_iff]; refine ⟨by simpa using leaseV_ok (l := M) (i := i) (by omega), ?_⟩
          obtain ⟨z, hz⟩ : ∃ z, M[i]? = some z := ⟨_, List.getElem?_eq_getElem (by omega)⟩
          refine ⟨leaseV (M.set i y), by simp only [Nat.zero_add, Int.toNat_natCast]; exact leaseV_put hz rfl, by trivial, q - 1, by omega, M.set i y, i + 1, j + 1, rfl, by rw [addI_i64 (by omega) (by omega)]; omega, by rw [addI_i64 (by omega) (by omega)]; omega, by omega, del_keep hI hyl g⟩
        · have g : exF now y = true := by simpa [notB] using g
          exact ⟨by trivial, q - 1, by omega, M, i, j + 1, rfl, rfl, by rw [addI_i64 (by omega) (by omega)]; omega, by omega, del_drop hI hyl g⟩
      · obtain rfl : j = L.length := by simp only [br_iff, need_iff, andB_t, andB_f, orB_t, orB_f, notB_t, notB_f, leI_t, leI_f, ltI_t, ltI_f, eqI_t, eqI_f, leN_t, leN_f, eqN_t, eqN_f, eqS_t, eqS_f, eqB_t, eqB_f, catOk_t, leC_t, Int.ofNat_eq_natCast] at hge; omega
        obtain ⟨he, hk⟩ := del_end hI
        have hr : ∀ a b : Nat, a = i → b = L.length - i → List.take a (leaseV M) ++ List.replicate b [V.int .i64 0, V.int .i64 0, V.int .i64 0, V.int .i64 0] ++ List.drop (a + b) (leaseV M) = leaseV (M.take i ++ List.replicate (L.length - i) ⟨0, 0, 0, 0⟩) := by
          rintro a b rfl rfl
          rw [leaseV_take, leaseV_drop, List.drop_of_length_le (by omega)]
          simp [leaseV, Lease.v]
        rw [need_iff]; refine ⟨leaseV_head _, ?_⟩
        rw [need_iff]; refine ⟨by simp only [br_iff, need_iff, andB_t, andB_f, orB_t, orB_f, notB_t, notB_f, leI_t, leI_f, ltI_t, ltI_f, eqI_t, eqI_f, leN_t, leN_f, eqN_t, eqN_f, eqS_t, eqS_f, eqB_t, eqB_f, catOk_t, leC_t, Int.ofNat_eq_natCast]; omega, ?_⟩
        rw [need_iff]; refine ⟨leaseV_head _, ?_⟩
        rw [hr _ _ (by simp) (by simp)]
        rw [need_iff]; refine ⟨leaseV_head _, ?_⟩
        rw [need_iff]; refine ⟨by simp only [br_iff, need_iff, andB_t, andB_f, orB_t, orB_f, notB_t, notB_f, leI_t, leI_f, ltI_t, ltI_f, eqI_t, eqI_f, leN_t, leN_f, eqN_t, eqN_f, eqS_t, eqS_f, eqB_t, eqB_f, catOk_t, leC_t, Int.ofNat_eq_natCast]; omega, ?_⟩
        simp only [Nat.sub_zero, Int.toNat_natCast]
        refine hK _ _ ⟨_, rfl, by simp; omega, by simp; omega, ?_⟩
        rw [List.take_append_of_le_length (by simp; omega), List.take_take, Nat.min_self, hk]
  · exact h.elim
theorem wt_con [MaxL] {n : Nat} (hn : 4 ≤ n) : ConOk (evalF Tryz.prog cfgN n) 154 witCon := by
  intro vs bs K h
  unfold witCon at h
  split at h
  · rename_i ys now
    obtain ⟨L, rfl, hb, hK⟩ := h
    refine run_of (lp := lpOf []) (by omega) (ct := ctOf [(221, delCon)]) (fun k hk => ctOf_ok (ctOf_cons (dl_con (by omega)) (ctOf_nil _))) ?_
    rw [wt_vc]
    simp only [leaseV_len]
    rw [need_iff]; refine ⟨leaseV_head _, ?_⟩
    rw [need_iff]; refine ⟨by simp only [br_iff, need_iff, andB_t, andB_f, orB_t, orB_f, notB_t, notB_f, leI_t, leI_f, ltI_t, ltI_f, eqI_t, eqI_f, leN_t, leN_f, eqN_t, eqN_f, eqS_t, eqS_f, eqB_t, eqB_f, catOk_t, leC_t]; omega, ?_⟩
    exact ⟨L, rfl, rfl, Nat.le_refl _, hb, hK⟩
  · exact h.elim
theorem cl_con [MaxL] {n : Nat} (hn : 5 ≤ n) : ConOk (evalF Tryz.prog cfgN n) 81 clCon := by
  intro vs bs K h
  unfold clCon at h
  split at h
  · rename_i ys now
    obtain ⟨L, rfl, hb, hK⟩ := h
    refine run_of (lp := lpOf []) (by omega) (ct := ctOf [(154, witCon)]) (fun k hk => ctOf_ok (ctOf_cons (wt_con (by omega)) (ctOf_nil _))) ?_
    rw [cl_vc]
    exact ⟨L, rfl, hb, hK⟩
  · exact h.elim
theorem half_i64 {i j : Nat} (h : i + j ≤ 200000) : wrapI .i64 (shrI .u64 (wrapI .u64 (addI .i64 (i : Int) (j : Int))) 1) = (((i + j) / 2 : Nat) : Int) := by
  rw [addI_i64 (by omega) (by omega)]
  have e : wrapI .u64 ((i : Int) + (j : Int)) = ((i + j : Nat) : Int) := (wrapU64 (by omega) (by omega)).trans (by omega)
  rw [e]
  have e2 := shrI_nat .u64 (i + j) 1 (by decide)
  rw [show ((1 : Nat) : Int) = 1 from rfl] at e2
  rw [e2]
  exact wrap64 (by omega) (by omega)
theorem bs_con [MaxL] {n : Nat} (hn : 4 ≤ n) : ConOk (evalF Tryz.prog cfgN n) 85 bsCon := by
  intro vs bs K h
  unfold bsCon at h
  split at h
  · rename_i k m r ys
    obtain ⟨L, ⟨c1, i1, k1, u1⟩, rfl, rfl, hk, hb, hs, hK⟩ := h
    dsimp only [Lease.v]
    refine run_of (lp := lpOf [(3, bsL fun _ _ x q => ∃ i j : Nat, x.i = i ∧ x.j = j ∧ i + q = j ∧ bsI (L.take k) ⟨c1, i1, k1, u1⟩ i j)]) (by omega) (ct := ctOf [(86, orCon)]) (fun k hk => ctOf_ok (ctOf_cons (or_con (by omega)) (ctOf_nil _))) ?_
    rw [bs_vc]
    have hkl : (L.take k).length = k := by simp; omega
    refine ⟨⟨k, by omega, 0, k, rfl, rfl, by omega, by have := bs_start (l := L.take k) (x := ⟨c1, i1, k1, u1⟩); rwa [hkl] at this⟩, ?_⟩
    rintro ⟨i, j⟩ q ⟨i, j, rfl, rfl, hq, hI⟩
    dsimp only
    have hI0 := hI
    obtain ⟨hij, hjk, _, _⟩ := hI0
    rw [hkl] at hjk
    rw [half_i64 (by omega)]
    rw [br_iff]
    refine ⟨fun hlt => ?_, fun hge => ?_⟩
    · have hlt : i < j := by simp only [br_iff, need_iff, andB_t, andB_f, orB_t, orB_f, notB_t, notB_f, leI_t, leI_f, ltI_t, ltI_f, eqI_t, eqI_f, leN_t, leN_f, eqN_t, eqN_f, eqS_t, eqS_f, eqB_t, eqB_f, catOk_t, leC_t] at hlt; omega
      obtain ⟨z, hz⟩ : ∃ z, L[(i + j) / 2]? = some z := ⟨_, List.getElem?_eq_getElem (by omega)⟩
      have hT : (L.take k)[(i + j) / 2]? = some z := by rw [List.getElem?_take_of_lt (by omega)]; exact hz
      rw [need_iff]; refine ⟨by simp only [br_iff, need_iff, andB_t, andB_f, orB_t, orB_f, notB_t, notB_f, leI_t, leI_f, ltI_t, ltI_f, eqI_t, eqI_f, leN_t, leN_f, eqN_t, eqN_f, eqS_t, eqS_f, eqB_t, eqB_f, catOk_t, leC_t, Int.ofNat_eq_natCast]; omega, ?_⟩
      rw [need_iff]; refine ⟨by simp only [Nat.zero_add, Int.toNat_natCast]; exact leaseV_ok (by omega), ?_⟩
      refine ⟨z.conn, z.id, z.kind, z.til, by simp only [Nat.zero_add, Int.toNat_natCast, leaseV_part hz]; rfl, ?_⟩
      rw [br_iff]
      refine ⟨fun g => ?_, fun g => ?_⟩
      · simp only [br_iff, need_iff, andB_t, andB_f, orB_t, orB_f, notB_t, notB_f, leI_t, leI_f, ltI_t, ltI_f, eqI_t, eqI_f, leN_t, leN_f, eqN_t, eqN_f, eqS_t, eqS_f, eqB_t, eqB_f, catOk_t, leC_t] at g
        exact ⟨by trivial, j - ((i + j) / 2 + 1), by omega, (i + j) / 2 + 1, j, by rw [addI_i64 (by omega) (by omega)]; omega, rfl, by omega, bs_right hs hI (by omega) (by omega) hT g⟩
      · simp only [br_iff, need_iff, andB_t, andB_f, orB_t, orB_f, notB_t, notB_f, leI_t, leI_f, ltI_t, ltI_f, eqI_t, eqI_f, leN_t, leN_f, eqN_t, eqN_f, eqS_t, eqS_f, eqB_t, eqB_f, catOk_t, leC_t] at g
        exact ⟨by trivial, (i + j) / 2 - i, by omega, i, (i + j) / 2, rfl, rfl, by omega, bs_left hs hI (by omega) (by omega) hT (by have g := g; show ¬ ordF z _ < 0; exact Int.not_lt.2 g)⟩
    · obtain rfl : i = j := by simp only [br_iff, need_iff, andB_t, andB_f, orB_t, orB_f, notB_t, notB_f, leI_t, leI_f, ltI_t, ltI_f, eqI_t, eqI_f, leN_t, leN_f, eqN_t, eqN_f, eqS_t, eqS_f, eqB_t, eqB_f, catOk_t, leC_t] at hge; omega
      rw [br_iff]
      refine ⟨fun hlt => ?_, fun hge => ?_⟩
      · have hlt : i < k := by simp only [br_iff, need_iff, andB_t, andB_f, orB_t, orB_f, notB_t, notB_f, leI_t, leI_f, ltI_t, ltI_f, eqI_t, eqI_f, leN_t, leN_f, eqN_t, eqN_f, eqS_t, eqS_f, eqB_t, eqB_f, catOk_t, leC_t, Int.ofNat_eq_natCast] at hlt; omega
        obtain ⟨z, hz⟩ : ∃ z, L[i]? = some z := ⟨_, List.getElem?_eq_getElem (by omega)⟩
        have hT : (L.take k)[i]? = some z := by rw [List.getElem?_take_of_lt (by omega)]; exact hz
        rw [need_iff]; refine ⟨by simp only [br_iff, need_iff, andB_t, andB_f, orB_t, orB_f, notB_t, notB_f, leI_t, leI_f, ltI_t, ltI_f, eqI_t, eqI_f, leN_t, leN_f, eqN_t, eqN_f, eqS_t, eqS_f, eqB_t, eqB_f, catOk_t, leC_t, Int.ofNat_eq_natCast]; omega, ?_⟩
        rw [need_iff]; refine ⟨by simpa using leaseV_ok (l := L) (i := i) (by omega), ?_⟩
        refine ⟨z.conn, z.id, z.kind, z.til, by simp only [Nat.zero_add, Int.toNat_natCast, leaseV_part hz]; rfl, ?_⟩
        refine hK _ _ ?_
        by_cases c : ordF z ⟨c1, i1, k1, u1⟩ = 0
        · rw [show eqI (ordF ⟨z.conn, z.id, z.kind, z.til⟩ ⟨c1, i1, k1, u1⟩) 0 = true from by rw [eqI_t]; exact c]
          exact bs_found hI hT c
        · rw [show eqI (ordF ⟨z.conn, z.id, z.kind, z.til⟩ ⟨c1, i1, k1, u1⟩) 0 = false from by rw [eqI_f]; exact c]
          exact bs_none hs hI (fun w hw => by rw [hT] at hw; cases hw; exact c)
      · refine hK _ _ (bs_none hs hI (fun w hw => ?_))
        have := (List.getElem?_eq_some_iff.1 hw).1
        simp only [br_iff, need_iff, andB_t, andB_f, orB_t, orB_f, notB_t, notB_f, leI_t, leI_f, ltI_t, ltI_f, eqI_t, eqI_f, leN_t, leN_f, eqN_t, eqN_f, eqS_t, eqS_f, eqB_t, eqB_f, catOk_t, leC_t, Int.ofNat_eq_natCast] at hge
        omega
  · exact h.elim
def rlCon : Con := fun vs bs K => match vs, bs with
  | [.lst ys], [] => ∃ L : List Lease, ys = leaseV L ∧ L.length ≤ 100000 ∧ ∀ b, isRight L b → K (.bool b) []
  | _, _ => False
theorem rl_con [MaxL] {n : Nat} (hn : 2 ≤ n) : ConOk (evalF Tryz.prog cfgN n) 23 rlCon := by
  intro vs bs K h
  unfold rlCon at h
  split at h
  · rename_i ys
    obtain ⟨L, rfl, hb, hK⟩ := h
    refine run_of (lp := lpOf [(2, rlL fun _ _ x q => ∃ i : Nat, x.i = i ∧ i + q = L.length ∧ (∀ y ∈ L.take i, okL y = true) ∧ sortedP (L.take i))]) (by omega) (ct := ctOf [(75, inCon), (76, kiCon), (77, beCon)]) (fun k hk => ctOf_ok (ctOf_cons (in_con (by omega)) (ctOf_cons (ki_con (by omega)) (ctOf_cons (be_con (by omega)) (ctOf_nil _))))) ?_
    rw [rl_vc]
    simp only [leaseV_lenL]
    have hF : K (.bool false) [] := hK _ (fun h => absurd h (by decide))
    refine ⟨⟨L.length, by omega, 0, rfl, by omega, by simp, by simp [sortedP]⟩, ?_⟩
    rintro ⟨i⟩ q ⟨i, rfl, hq, ho, hs⟩
    dsimp only
    rw [br_iff]
    refine ⟨fun hlt => ?_, fun hge => ?_⟩
    · have hlt : i < L.length := by simp only [br_iff, need_iff, andB_t, andB_f, orB_t, orB_f, notB_t, notB_f, leI_t, leI_f, ltI_t, ltI_f, eqI_t, eqI_f, leN_t, leN_f, eqN_t, eqN_f, eqS_t, eqS_f, eqB_t, eqB_f, catOk_t, leC_t] at hlt; omega
      obtain ⟨x, hx⟩ : ∃ x, L[i]? = some x := ⟨_, List.getElem?_eq_getElem hlt⟩
      have hr := leaseV_row hx
      have hn1 : andB (leI 0 (i : Int)) (ltI (i : Int) (L.length : Int)) = true := by simp only [br_iff, need_iff, andB_t, andB_f, orB_t, orB_f, notB_t, notB_f, leI_t, leI_f, ltI_t, ltI_f, eqI_t, eqI_f, leN_t, leN_f, eqN_t, eqN_f, eqS_t, eqS_f, eqB_t, eqB_f, catOk_t, leC_t]; omega
      have hn2 : okRow (leaseV L) (i : Int).toNat 4 = true := by simpa using leaseV_ok (l := L) (i := i) hlt
      simp only [hn1, hn2, hr, need_tt]
      refine ⟨x.id, rfl, ?_⟩
      rw [br_iff]; refine ⟨fun _ => hF, fun g1 => ⟨x.conn, rfl, ?_⟩⟩
      rw [br_iff]; refine ⟨fun _ => hF, fun g2 => ⟨x.kind, rfl, ?_⟩⟩
      rw [br_iff]; refine ⟨fun _ => hF, fun g3 => ⟨x.til, rfl, ?_⟩⟩
      rw [br_iff]; refine ⟨fun _ => hF, fun g4 => ?_⟩
      have hok : okL x = true := by simp only [br_iff, need_iff, andB_t, andB_f, orB_t, orB_f, notB_t, notB_f, leI_t, leI_f, ltI_t, ltI_f, eqI_t, eqI_f, leN_t, leN_f, eqN_t, eqN_f, eqS_t, eqS_f, eqB_t, eqB_f, catOk_t, leC_t] at g1 g2 g3 g4; simp [okL, g1, g2, g3, g4]
      have next : ∀ c : (∀ y, 0 < i → L[i - 1]? = some y → ltL y x = true), ∃ m' : Nat, m' < q ∧ ∃ i' : Nat, addI IntKind.i64 (i : Int) 1 = i' ∧ i' + m' = L.length ∧ (∀ y ∈ L.take i', okL y = true) ∧ sortedP (L.take i') := fun c =>
        ⟨q - 1, by omega, i + 1, by rw [addI_i64 (by omega) (by omega)]; omega, by omega, ok_snoc ho hx hok, sorted_snoc hs hx c⟩
      rw [br_iff]; refine ⟨fun g => ?_, fun g => ?_⟩
      · have g : 0 < i := by simp only [br_iff, need_iff, andB_t, andB_f, orB_t, orB_f, notB_t, notB_f, leI_t, leI_f, ltI_t, ltI_f, eqI_t, eqI_f, leN_t, leN_f, eqN_t, eqN_f, eqS_t, eqS_f, eqB_t, eqB_f, catOk_t, leC_t] at g; omega
        have es : subI IntKind.i64 (i : Int) 1 = ((i - 1 : Nat) : Int) := by rw [subI_i64 (by omega) (by omega)]; omega
        obtain ⟨y, hy⟩ : ∃ y, L[i - 1]? = some y := ⟨_, List.getElem?_eq_getElem (by omega)⟩
        rw [es]
        have hn3 : andB (leI 0 ((i - 1 : Nat) : Int)) (ltI ((i - 1 : Nat) : Int) (L.length : Int)) = true := by simp only [br_iff, need_iff, andB_t, andB_f, orB_t, orB_f, notB_t, notB_f, leI_t, leI_f, ltI_t, ltI_f, eqI_t, eqI_f, leN_t, leN_f, eqN_t, eqN_f, eqS_t, eqS_f, eqB_t, eqB_f, catOk_t, leC_t]; omega
        have hn4 : okRow (leaseV L) ((i - 1 : Nat) : Int).toNat 4 = true := by simpa using leaseV_ok (l := L) (i := i - 1) (by omega)
        simp only [hn3, hn4, leaseV_row hy, need_tt]
        refine ⟨y.conn, y.id, y.kind, y.til, rfl, x.conn, x.id, x.kind, x.til, rfl, ?_⟩
        rw [br_iff]; refine ⟨fun _ => hF, fun g5 => ⟨by trivial, next fun w _ hw => ?_⟩⟩
        rw [hy] at hw; cases hw
        simpa [notB] using g5
      · exact ⟨by trivial, next fun w hw => by simp only [br_iff, need_iff, andB_t, andB_f, orB_t, orB_f, notB_t, notB_f, leI_t, leI_f, ltI_t, ltI_f, eqI_t, eqI_f, leN_t, leN_f, eqN_t, eqN_f, eqS_t, eqS_f, eqB_t, eqB_f, catOk_t, leC_t] at g; omega⟩
    · obtain rfl : i = L.length := by simp only [br_iff, need_iff, andB_t, andB_f, orB_t, orB_f, notB_t, notB_f, leI_t, leI_f, ltI_t, ltI_f, eqI_t, eqI_f, leN_t, leN_f, eqN_t, eqN_f, eqS_t, eqS_f, eqB_t, eqB_f, catOk_t, leC_t] at hge; omega
      rw [List.take_length] at ho hs
      refine hK _ fun h => ⟨?_, ho, hs⟩
      simp only [br_iff, need_iff, andB_t, andB_f, orB_t, orB_f, notB_t, notB_f, leI_t, leI_f, ltI_t, ltI_f, eqI_t, eqI_f, leN_t, leN_f, eqN_t, eqN_f, eqS_t, eqS_f, eqB_t, eqB_f, catOk_t, leC_t] at h; omega
  · exact h.elim
end Go.Proofs.YthhpdnlfhofanaaGreatDoor
namespace Go.Proofs.YthhpdnlfhofanaaGreatDoor
open Go.RowKit
set_option maxRecDepth 100000
set_option linter.unusedVariables false
set_option linter.unusedSimpArgs false
def grCon : Con := fun vs bs K => match vs, bs with
  | [.lst ys, .int .i64 conn, .int .i64 id, .int .i64 1, .int .i64 term, .int .i64 now], [] => ∃ L : List Lease, ys = leaseV L ∧ L.length ≤ 64 ∧ sortedP L ∧ ∀ (m : List Lease) (u e : Int), isGrant conn id 1 term now m u e → K (.tup [.lst (leaseV m), .int .i64 u, .int .i64 e]) []
  | _, _ => False
theorem gr_con [MaxL] {n : Nat} (hn : 6 ≤ n) : ConOk (evalF Tryz.prog cfgN n) 24 grCon := by
  intro vs bs K h
  unfold grCon at h
  split at h
  · rename_i ys conn id term now
    obtain ⟨L, rfl, hb, hs, hK⟩ := h
    refine run_of (lp := lpOf []) (by omega) (ct := ctOf [(78, inCon), (79, kiCon), (81, clCon), (82, inlC Tryz.prog cfgN (ctOf [(156, igCon)]) 82), (85, bsCon)])
      (fun k hk => ctOf_ok (ctOf_cons (wi_con (by omega)) (ctOf_cons (ik_con (by omega)) (ctOf_cons (cl_con (by omega)) (ctOf_cons (inl_ok (by omega) (fun q hq => ctOf_ok (ctOf_cons (ig_con (by omega)) (ctOf_nil _)))) (ctOf_cons (bs_con (by omega)) (ctOf_nil _))))))) ?_
    rw [gr_vc]
    have bad : ∀ e : Int, e ≠ 0 → need (headOkP 4 (leaseV L)) (need (leN ((leaseV L).length * 32) 140737488355328) (K (V.tup [V.lst (List.take (leaseV L).length (List.drop 0 (leaseV L))), V.int IntKind.i64 0, V.int IntKind.i64 e]) [])) := by
      intro e he
      rw [need_iff]; refine ⟨leaseV_head _, ?_⟩
      rw [need_iff]; refine ⟨by rw [leaseV_len]; simp only [br_iff, need_iff, andB_t, andB_f, orB_t, orB_f, notB_t, notB_f, leI_t, leI_f, ltI_t, ltI_f, eqI_t, eqI_f, leN_t, leN_f, eqN_t, eqN_f, eqS_t, eqS_f, eqB_t, eqB_f, catOk_t, leC_t]; omega, ?_⟩
      rw [List.drop_zero, List.take_length]
      exact hK _ _ _ (fun h => absurd h he)
    rw [br_iff]; refine ⟨fun _ => bad 1 (by decide), fun g1 => ?_⟩
    rw [br_iff]; refine ⟨fun _ => bad 1 (by decide), fun g2 => ?_⟩
    rw [br_iff]; refine ⟨fun _ => bad 1 (by decide), fun g3 => ?_⟩
    rw [br_iff]; refine ⟨fun _ => bad 1 (by decide), fun g4 => ?_⟩
    have g2 : 1 ≤ id ∧ id ≤ 1099511627776 := by simpa [notB, inI] using g2
    have g3 : 1 ≤ term ∧ term ≤ 1048576 := by simpa [notB, inI] using g3
    have g4 : 0 ≤ now ∧ now ≤ 1099511627776 := by simpa [notB, inI] using g4
    have hu : addI .i64 now term = now + term := addI_i64 (by omega) (by omega)
    rw [hu]
    refine ⟨L, rfl, by omega, ?_⟩
    rintro zs i ⟨M, rfl, hMl, hi, hT⟩
    refine ⟨M, rfl, hi, by omega, fun i1 _ => ?_⟩
    have hsT : sortedP (M.take i) := by rw [hT]; exact keep_sorted hs
    have hTl : (M.take i).length = i := by simp; omega
    rw [br_iff]; refine ⟨fun _ => bad 32 (by decide), fun _ => ?_⟩
    refine ⟨M, ⟨conn, id, 1, now + term⟩, rfl, rfl, hi, by omega, hsT, ?_⟩
    rintro i2 b ⟨k, rfl, hk, hf, hnf⟩
    rw [hTl] at hk
    rw [br_iff]
    refine ⟨fun hbt => ?_, fun hbf => ?_⟩
    · obtain ⟨y, hy, e1, e2⟩ := hf hbt
      have hki : k < i := by have := (List.getElem?_eq_some_iff.1 hy).1; omega
      obtain ⟨z, hz⟩ : ∃ z, M[k]? = some z := ⟨_, List.getElem?_eq_getElem (by omega)⟩
      rw [need_iff]; refine ⟨by simp only [br_iff, need_iff, andB_t, andB_f, orB_t, orB_f, notB_t, notB_f, leI_t, leI_f, ltI_t, ltI_f, eqI_t, eqI_f, leN_t, leN_f, eqN_t, eqN_f, eqS_t, eqS_f, eqB_t, eqB_f, catOk_t, leC_t, Int.ofNat_eq_natCast]; omega, ?_⟩
      rw [need_iff]; refine ⟨by simp only [Nat.zero_add, Int.toNat_natCast]; exact leaseV_ok (by omega), ?_⟩
      refine ⟨leaseV (M.set k ⟨conn, id, 1, now + term⟩), by simp only [Nat.zero_add, Int.toNat_natCast]; exact leaseV_put hz rfl, ?_⟩
      rw [List.drop_zero, leaseV_take]
      obtain ⟨q1, q2⟩ := grant_set (x := ⟨conn, id, 1, now + term⟩) hsT hy e1 e2
      exact hK _ _ _ fun _ => ⟨⟨g2.1, g2.2, g3.1, g3.2, g4.1, g4.2⟩, rfl, by simp; omega, q1, fun w hw f1 f2 => q2 w hw f1 f2⟩
    · rw [br_iff]; refine ⟨fun _ => bad 22 (by decide), fun _ => ?_⟩
      rw [need_iff]; refine ⟨leaseV_head _, ?_⟩
      rw [need_iff]; refine ⟨by simp only [br_iff, need_iff, andB_t, andB_f, orB_t, orB_f, notB_t, notB_f, leI_t, leI_f, ltI_t, ltI_f, eqI_t, eqI_f, leN_t, leN_f, eqN_t, eqN_f, eqS_t, eqS_f, eqB_t, eqB_f, catOk_t, leC_t, Int.ofNat_eq_natCast]; omega, ?_⟩
      rw [need_iff]; refine ⟨by simp only [br_iff, need_iff, andB_t, andB_f, orB_t, orB_f, notB_t, notB_f, leI_t, leI_f, ltI_t, ltI_f, eqI_t, eqI_f, leN_t, leN_f, eqN_t, eqN_f, eqS_t, eqS_f, eqB_t, eqB_f, catOk_t, leC_t]; omega, ?_⟩
      have hin := grant_ins (x := ⟨conn, id, 1, now + term⟩) (List.take_append_drop k (M.take i)).symm (hnf hbf)
      have hlen : (List.take k (M.take i) ++ (⟨conn, id, 1, now + term⟩ : Lease) :: List.drop k (M.take i)).length = i + 1 := by simp; omega
      have hv : ∀ l : List Lease, List.take (i + 1) (leaseV (List.take k (M.take i)) ++ [V.int .i64 conn, V.int .i64 id, V.int .i64 1, V.int .i64 (now + term)] :: leaseV (List.drop k (M.take i)) ++ leaseV l) = leaseV (List.take k (M.take i) ++ (⟨conn, id, 1, now + term⟩ : Lease) :: List.drop k (M.take i)) := by
        intro l
        have e : leaseV (List.take k (M.take i)) ++ [V.int .i64 conn, V.int .i64 id, V.int .i64 1, V.int .i64 (now + term)] :: leaseV (List.drop k (M.take i)) ++ leaseV l = leaseV ((List.take k (M.take i) ++ (⟨conn, id, 1, now + term⟩ : Lease) :: List.drop k (M.take i)) ++ l) := by simp [leaseV, Lease.v]
        rw [e, leaseV_take, List.take_append_of_le_length (by omega), List.take_of_length_le (by omega)]
      have fin : K (V.tup [V.lst (leaseV (List.take k (M.take i) ++ (⟨conn, id, 1, now + term⟩ : Lease) :: List.drop k (M.take i))), V.int .i64 (now + term), V.int .i64 0]) [] :=
        hK _ _ _ fun _ => ⟨⟨g2.1, g2.2, g3.1, g3.2, g4.1, g4.2⟩, rfl, by rw [hlen]; omega, hin.1, fun w hw f1 f2 => hin.2 w hw f1 f2⟩
      rw [br_iff]; refine ⟨fun hroom => ?_, fun hfull => ?_⟩
      · simp only [Nat.zero_add, Int.toNat_natCast, List.drop_zero, leaseV_take, leaseV_drop]
        have e2 : M.take k = List.take k (M.take i) := by rw [List.take_take, Nat.min_eq_left hk]
        rw [e2, hv]; exact fin
      · rw [need_iff]; refine ⟨by simp only [br_iff, need_iff, andB_t, andB_f, orB_t, orB_f, notB_t, notB_f, leI_t, leI_f, ltI_t, ltI_f, eqI_t, eqI_f, leN_t, leN_f, eqN_t, eqN_f, eqS_t, eqS_f, eqB_t, eqB_f, catOk_t, leC_t, leaseV_len] at hfull ⊢; omega, ?_⟩
        simp only [Nat.zero_add, Int.toNat_natCast, List.drop_zero, leaseV_take, leaseV_drop]
        have := hv []
        simp only [leaseV, List.map_nil, List.append_nil] at this
        simp only [leaseV] at fin ⊢
        rw [this]; exact fin
  · exact h.elim
end Go.Proofs.YthhpdnlfhofanaaGreatDoor
