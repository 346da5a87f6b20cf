/- slices.Delete of one element: its condition, at any type of elements. -/
import Derived.Test.YthhpdnlfhofanaaGreatDoorEvF
import Derived.Test.YthhpdnlfhofanaaGreatDoorEvC
import Derived.Test.YthhpdnlfhofanaaGreatDoorPkTab
namespace Go.Proofs.YthhpdnlfhofanaaGreatDoor
open Go.RowKit
set_option maxRecDepth 100000
set_option linter.unusedVariables false
set_option linter.unusedSimpArgs false
def delP1 (z b : Nat) (Z : List V) (xs : List (List V)) (n m : Nat) (i j : Int) (K : V → List Bk → Prop) : Prop :=
  (
    br (eqI i j) (
      K (V.ref 0 0 n m) [Bk.mk true false true xs 0]) (
      need (headOkP z xs) (
      need (andB (leI 0 i) (leI i (Int.ofNat m))) (
      need (headOkP z xs) (
      need (andB (leI 0 j) (leI j (Int.ofNat n))) (
      need (headOkP z (List.take ((Int.ofNat n).toNat - j.toNat) (List.drop (0 + j.toNat) xs))) (
      need (headOkP z xs) (
      br (leN (i.toNat - 0 + (List.take ((Int.ofNat n).toNat - j.toNat) (List.drop (0 + j.toNat) xs)).length) (m - 0)) (
        need (headOkP z (List.take (0 + (i.toNat - 0)) xs ++ List.take ((Int.ofNat n).toNat - j.toNat) (List.drop (0 + j.toNat) xs) ++ List.drop (0 + (i.toNat - 0) + (List.take ((Int.ofNat n).toNat - j.toNat) (List.drop (0 + j.toNat) xs)).length) xs)) (
        need (andB true (leI (Int.ofNat n) (Int.ofNat (m - 0)))) (
        need (andB true (leI (Int.ofNat (i.toNat - 0 + (List.take ((Int.ofNat n).toNat - j.toNat) (List.drop (0 + j.toNat) xs)).length)) (Int.ofNat n))) (
        need (headOkP z (List.take (0 + (i.toNat - 0)) xs ++ List.take ((Int.ofNat n).toNat - j.toNat) (List.drop (0 + j.toNat) xs) ++ List.drop (0 + (i.toNat - 0) + (List.take ((Int.ofNat n).toNat - j.toNat) (List.drop (0 + j.toNat) xs)).length) xs)) (
        K (V.ref 0 0 (i.toNat - 0 + (List.take ((Int.ofNat n).toNat - j.toNat) (List.drop (0 + j.toNat) xs)).length) (m - 0)) [Bk.mk true false true (List.take (0 + (Int.ofNat (i.toNat - 0 + (List.take ((Int.ofNat n).toNat - j.toNat) (List.drop (0 + j.toNat) xs)).length)).toNat) (List.take (0 + (i.toNat - 0)) xs ++ List.take ((Int.ofNat n).toNat - j.toNat) (List.drop (0 + j.toNat) xs) ++ List.drop (0 + (i.toNat - 0) + (List.take ((Int.ofNat n).toNat - j.toNat) (List.drop (0 + j.toNat) xs)).length) xs) ++ List.replicate ((Int.ofNat n).toNat - (Int.ofNat (i.toNat - 0 + (List.take ((Int.ofNat n).toNat - j.toNat) (List.drop (0 + j.toNat) xs)).length)).toNat) Z ++ List.drop (0 + (Int.ofNat (i.toNat - 0 + (List.take ((Int.ofNat n).toNat - j.toNat) (List.drop (0 + j.toNat) xs)).length)).toNat + ((Int.ofNat n).toNat - (Int.ofNat (i.toNat - 0 + (List.take ((Int.ofNat n).toNat - j.toNat) (List.drop (0 + j.toNat) xs)).length)).toNat)) (List.take (0 + (i.toNat - 0)) xs ++ List.take ((Int.ofNat n).toNat - j.toNat) (List.drop (0 + j.toNat) xs) ++ List.drop (0 + (i.toNat - 0) + (List.take ((Int.ofNat n).toNat - j.toNat) (List.drop (0 + j.toNat) xs)).length) xs)) 0]))))) (
        need (eqN (0 + (i.toNat - 0)) xs.length) (
        need (leN ((i.toNat - 0 + (List.take ((Int.ofNat n).toNat - j.toNat) (List.drop (0 + j.toNat) xs)).length) * b) 140737488355328) (
        need (headOkP z (List.drop 0 xs ++ List.take ((Int.ofNat n).toNat - j.toNat) (List.drop (0 + j.toNat) xs))) (
        need (andB true (leI (Int.ofNat n) (Int.ofNat (i.toNat - 0 + (List.take ((Int.ofNat n).toNat - j.toNat) (List.drop (0 + j.toNat) xs)).length)))) (
        need (andB true (leI (Int.ofNat (i.toNat - 0 + (List.take ((Int.ofNat n).toNat - j.toNat) (List.drop (0 + j.toNat) xs)).length)) (Int.ofNat n))) (
        need (headOkP z (List.drop 0 xs ++ List.take ((Int.ofNat n).toNat - j.toNat) (List.drop (0 + j.toNat) xs))) (
        K (V.ref 1 0 (i.toNat - 0 + (List.take ((Int.ofNat n).toNat - j.toNat) (List.drop (0 + j.toNat) xs)).length) (i.toNat - 0 + (List.take ((Int.ofNat n).toNat - j.toNat) (List.drop (0 + j.toNat) xs)).length)) [Bk.mk false false true [] 0, Bk.mk true false true (List.take (0 + (Int.ofNat (i.toNat - 0 + (List.take ((Int.ofNat n).toNat - j.toNat) (List.drop (0 + j.toNat) xs)).length)).toNat) (List.drop 0 xs ++ List.take ((Int.ofNat n).toNat - j.toNat) (List.drop (0 + j.toNat) xs)) ++ List.replicate ((Int.ofNat n).toNat - (Int.ofNat (i.toNat - 0 + (List.take ((Int.ofNat n).toNat - j.toNat) (List.drop (0 + j.toNat) xs)).length)).toNat) Z ++ List.drop (0 + (Int.ofNat (i.toNat - 0 + (List.take ((Int.ofNat n).toNat - j.toNat) (List.drop (0 + j.toNat) xs)).length)).toNat + ((Int.ofNat n).toNat - (Int.ofNat (i.toNat - 0 + (List.take ((Int.ofNat n).toNat - j.toNat) (List.drop (0 + j.toNat) xs)).length)).toNat)) (List.drop 0 xs ++ List.take ((Int.ofNat n).toNat - j.toNat) (List.drop (0 + j.toNat) xs))) 0])))))))))))))))
def delP (z b : Nat) (Z : List V) (xs : List (List V)) (n m : Nat) (i j : Int) (K : V → List Bk → Prop) : Prop := (
  need (headOkP z xs) (
  need (andB true (leI (Int.ofNat n) (Int.ofNat m))) (
  need (andB (leI 0 j) (leI j (Int.ofNat n))) (
  need (andB (leI 0 i) (leI i j)) (
  br (eqI (Int.ofNat n) i) (delP1 z b Z xs n m i j K) (delP1 z b Z xs n m i j K))))))
theorem headOkP_all {z : Nat} {l : List (List V)} (h : ∀ r ∈ l, r.length = z) : headOkP z l = true := by
  cases l with
  | nil => rfl
  | cons a l => simpa [headOkP, headOk] using h a (List.mem_cons_self ..)
theorem delP_of {z b : Nat} {Z : List V} {xs : List (List V)} {k : Nat} {K : V → List Bk → Prop} (hz : ∀ r ∈ xs, r.length = z) (hk : k < xs.length) (hb : xs.length * b ≤ 140737488355328)
    (hK : ∀ ys, K (.ref 0 0 (xs.length - 1) xs.length) [⟨true, false, true, xs.eraseIdx k ++ ys, 0⟩]) : delP z b Z xs xs.length xs.length (k : Int) ((k : Int) + 1) K := by
  have h0 : headOkP z xs = true := headOkP_all hz
  have ht : ((k : Int) + 1).toNat = k + 1 := by omega
  have hl : (List.take (xs.length - (k + 1)) (List.drop (k + 1) xs)) = List.drop (k + 1) xs := List.take_of_length_le (by simp)
  have hll : (List.drop (k + 1) xs).length = xs.length - (k + 1) := List.length_drop
  have e1 : k + (xs.length - (k + 1)) = xs.length - 1 := by omega
  have he : List.take k xs ++ List.drop (k + 1) xs = xs.eraseIdx k := (List.eraseIdx_eq_take_drop_succ xs k).symm
  have hel : (xs.eraseIdx k).length = xs.length - 1 := by rw [List.length_eraseIdx_of_lt hk]
  have main : delP1 z b Z xs xs.length xs.length (k : Int) ((k : Int) + 1) K := by
    unfold delP1
    simp only [leN_succ, eqN_self, leI_self, br_ff, br_tt, need_tt, andB_tt, List.drop_zero, List.nil_append, List.append_nil, Nat.zero_add, Nat.add_zero, Nat.sub_zero, List.take_length, Int.ofNat_eq_natCast, Int.toNat_natCast, Int.toNat_zero, ht, hl, hll, e1, he, List.append_assoc]
    rw [br_iff]
    refine ⟨fun h => by simp only [br_iff, need_iff, andB_t, andB_f, orB_t, orB_f, notB_t, notB_f, leI_t, leI_f, ltI_t, ltI_f, eqI_t, eqI_f, leN_t, leN_f, eqN_t, eqN_f, eqS_t, eqS_f, eqB_t, eqB_f, catOk_t, leC_t] at h; omega, fun _ => ?_⟩
    rw [need_iff]; refine ⟨h0, ?_⟩
    rw [need_iff]; refine ⟨by simp only [br_iff, need_iff, andB_t, andB_f, orB_t, orB_f, notB_t, notB_f, leI_t, leI_f, ltI_t, ltI_f, eqI_t, eqI_f, leN_t, leN_f, eqN_t, eqN_f, eqS_t, eqS_f, eqB_t, eqB_f, catOk_t, leC_t]; omega, ?_⟩
    rw [need_iff]; refine ⟨h0, ?_⟩
    rw [need_iff]; refine ⟨by simp only [br_iff, need_iff, andB_t, andB_f, orB_t, orB_f, notB_t, notB_f, leI_t, leI_f, ltI_t, ltI_f, eqI_t, eqI_f, leN_t, leN_f, eqN_t, eqN_f, eqS_t, eqS_f, eqB_t, eqB_f, catOk_t, leC_t]; omega, ?_⟩
    rw [need_iff]; refine ⟨headOkP_all fun r hr => hz r (List.mem_of_mem_drop hr), ?_⟩
    rw [need_iff]; refine ⟨h0, ?_⟩
    rw [br_iff]
    refine ⟨fun _ => ?_, fun h => by simp only [br_iff, need_iff, andB_t, andB_f, orB_t, orB_f, notB_t, notB_f, leI_t, leI_f, ltI_t, ltI_f, eqI_t, eqI_f, leN_t, leN_f, eqN_t, eqN_f, eqS_t, eqS_f, eqB_t, eqB_f, catOk_t, leC_t] at h; omega⟩
    have hall : ∀ r ∈ List.take k xs ++ (List.drop (k + 1) xs ++ List.drop (k + (xs.length - (k + 1))) xs), r.length = z := fun r hr => by
      simp only [List.mem_append] at hr
      rcases hr with h | h | h
      · exact hz r (List.mem_of_mem_take h)
      · exact hz r (List.mem_of_mem_drop h)
      · exact hz r (List.mem_of_mem_drop h)
    rw [e1, ← List.append_assoc, he] at hall
    rw [need_iff]; refine ⟨headOkP_all hall, ?_⟩
    try (rw [need_iff]; refine ⟨by simp only [br_iff, need_iff, andB_t, andB_f, orB_t, orB_f, notB_t, notB_f, leI_t, leI_f, ltI_t, ltI_f, eqI_t, eqI_f, leN_t, leN_f, eqN_t, eqN_f, eqS_t, eqS_f, eqB_t, eqB_f, catOk_t, leC_t]; omega, ?_⟩)
    try (rw [need_iff]; refine ⟨headOkP_all hall, ?_⟩)
    have e2 : List.take (xs.length - 1) (xs.eraseIdx k ++ List.drop (xs.length - 1) xs) = xs.eraseIdx k := List.take_left' hel
    rw [e2]
    exact hK _
  unfold delP
  rw [need_iff]; refine ⟨h0, ?_⟩
  rw [need_iff]; refine ⟨by simp [andB, leI], ?_⟩
  rw [need_iff]; refine ⟨by simp only [br_iff, need_iff, andB_t, andB_f, orB_t, orB_f, notB_t, notB_f, leI_t, leI_f, ltI_t, ltI_f, eqI_t, eqI_f, leN_t, leN_f, eqN_t, eqN_f, eqS_t, eqS_f, eqB_t, eqB_f, catOk_t, leC_t, Int.ofNat_eq_natCast]; omega, ?_⟩
  rw [need_iff]; refine ⟨by simp only [br_iff, need_iff, andB_t, andB_f, orB_t, orB_f, notB_t, notB_f, leI_t, leI_f, ltI_t, ltI_f, eqI_t, eqI_f, leN_t, leN_f, eqN_t, eqN_f, eqS_t, eqS_f, eqB_t, eqB_f, catOk_t, leC_t, Int.ofNat_eq_natCast]; omega, ?_⟩
  rw [br_iff]
  exact ⟨fun _ => main, fun _ => main⟩
end Go.Proofs.YthhpdnlfhofanaaGreatDoor
namespace Go.Proofs.YthhpdnlfhofanaaGreatDoor
open Go.RowKit
set_option maxRecDepth 100000
set_option linter.unusedVariables false
set_option linter.unusedSimpArgs false
def seqR : Code → Code
  | .seq _ y => y
  | c => c

noncomputable def restC : Code := match Tryz.f15.body with
  | some c => seqR (seqR (seqR (seqR (seqR (seqR c)))))
  | none => .skip

def exK : Nat → Option (List Nat) := fun r => bif Nat.beq r 15 then some [1, 6, 8, 82, 83] else none

def delPCon : Con := fun vs bs K => match vs, bs with
  | [.ref 0 0 n m, .int .i64 i, .int .i64 j], [⟨true, false, true, xs, 0⟩] => ∃ (l : List Proc) (k : Nat), xs = procV l ∧ n = l.length ∧ m = l.length ∧ i = (k : Int) ∧ j = (k : Int) + 1 ∧ k < l.length ∧ l.length ≤ 100000 ∧ ∀ ys : List (List V), K (.ref 0 0 (l.length - 1) l.length) [⟨true, false, true, procV (l.eraseIdx k) ++ ys, 0⟩]
  | _, _ => False

noncomputable def cfgX [MaxL] : Cfg := { cfgN with res := fun f => bif Nat.beq f 52 then 0 else cfgN.res f }

noncomputable def exEnd [MaxL] (K : V → List Bk → Prop) (e : Ex) (st : St) : Prop := match e with
  | .ret => match finish Tryz.prog cfgX 15 Tryz.f15 0 st with
    | some (r, out) => K r out
    | none => False
  | _ => False

structure exC where
  nx : Int
  gp : Int
  id : Int
  z0 : Int
  z1 : Int
  n : Nat
  m : Nat
  cnt : Int
structure exX where
  ys : List (List V)
  j : Int
def exSt (c : exC) (x : exX) : St := ⟨[(1, .int .i64 c.id), (6, .ptr 0 0 0), (8, .ptr 1 0 0), (82, .int .i64 c.cnt), (83, .int .i64 x.j)], [(0, ⟨true, true, true, [[.int .i64 c.z0, .int .i64 c.z1, .nils]], 0⟩), (1, ⟨true, true, true, [[.int .i64 c.nx, .int .i64 c.gp, .ref 2 0 c.n c.m]], 0⟩), (2, ⟨true, false, true, x.ys, 0⟩)]⟩
set_option maxHeartbeats 4000000 in
def exUn (s : St) : Option (exC × exX) :=
  match s with
  | ⟨[(q0, .int .i64 id), (q1, .ptr q2 q3 q4), (q5, .ptr q6 q7 q8), (q9, .int .i64 cnt), (q10, .int .i64 j)], [(q11, ⟨true, true, true, [[.int .i64 z0, .int .i64 z1, .nils]], q12⟩), (q13, ⟨true, true, true, [[.int .i64 nx, .int .i64 gp, .ref q14 q15 n m]], q16⟩), (q17, ⟨true, false, true, ys, q18⟩)]⟩ => bif Nat.beq q0 1 && Nat.beq q1 6 && Nat.beq q2 0 && Nat.beq q3 0 && Nat.beq q4 0 && Nat.beq q5 8 && Nat.beq q6 1 && Nat.beq q7 0 && Nat.beq q8 0 && Nat.beq q9 82 && Nat.beq q10 83 && Nat.beq q11 0 && Nat.beq q12 0 && Nat.beq q13 1 && Nat.beq q14 2 && Nat.beq q15 0 && Nat.beq q16 0 && Nat.beq q17 2 && Nat.beq q18 0 then some (⟨nx, gp, id, z0, z1, n, m, cnt⟩, ⟨ys, j⟩) else none
  | _ => none
set_option maxHeartbeats 4000000 in
def exL (inv : exC → exX → exX → Nat → Prop) : LoopS where
  C := exC
  X := exX
  st := exSt
  un := exUn
  ok := by
    intro s c x h
    unfold exUn at h
    split at h
    · simp only [Bool.cond_eq_ite] at h
      split at h
      · rename_i hg
        simp only [Bool.and_eq_true, Nat.beq_eq] at hg
        obtain ⟨⟨⟨⟨⟨⟨⟨⟨⟨⟨⟨⟨⟨⟨⟨⟨⟨⟨rfl, rfl⟩, rfl⟩, rfl⟩, rfl⟩, rfl⟩, rfl⟩, rfl⟩, rfl⟩, rfl⟩, rfl⟩, rfl⟩, rfl⟩, rfl⟩, rfl⟩, rfl⟩, rfl⟩, rfl⟩, rfl⟩ := hg
        cases h
        rfl
      · cases h
    · cases h
  inv := inv

theorem ex_vc [MaxL] (nx gp id i : Int) (n : Nat) (xs : List (List V)) (I : exC → exX → exX → Nat → Prop) (K : V → List Bk → Prop) : vcCode Tryz.prog cfgX (ctOf [(52, delPCon)]) (lpOf [(15, exL I)]) 0 exK restC ⟨[(1, .int .i64 id), (6, .ptr 1 0 0), (8, .ptr 0 0 0), (9, .int .i64 i)], [(0, ⟨true, true, true, [[.int .i64 nx, .int .i64 gp, .ref 2 0 n n]], 0⟩), (1, ⟨true, true, true, [[.int .i64 0, .int .i64 0, .nils]], 0⟩), (2, ⟨true, false, true, xs, 0⟩)]⟩ (exEnd K) = (
  ∃ l9 : List Proc, ∃ k10 : Nat, ((xs : List (List V)) = procV l9) ∧ (
  ((n : Nat) = l9.length) ∧ (
  ((n : Nat) = l9.length) ∧ (
  ((i : Int) = Int.ofNat k10) ∧ (
  ((addI IntKind.i64 i 1 : Int) = Int.ofNat k10 + 1) ∧ (
  (((k10 : Nat) < l9.length)) ∧ (
  (((l9.length : Nat) ≤ 100000)) ∧ (
  ∀ ys11 : List (List V), (∃ m12 : Nat, (((m12 : Nat) < 18446744073709551616)) ∧ (
  I (exC.mk nx gp id 0 0 (l9.length - 1) l9.length (Int.ofNat (l9.length - 1))) (exX.mk (procV (l9.eraseIdx k10) ++ ys11) 0) (exX.mk (procV (l9.eraseIdx k10) ++ ys11) 0) m12)) ∧ (
  ∀ x12 : (exL I).X, ∀ m13 : Nat, (I (exC.mk nx gp id 0 0 (l9.length - 1) l9.length (Int.ofNat (l9.length - 1))) (exX.mk (procV (l9.eraseIdx k10) ++ ys11) 0) x12 m13) → (
  br (ltI x12.2 (Int.ofNat (l9.length - 1))) (
    need (andB (leI 0 x12.2) (ltI x12.2 (Int.ofNat (l9.length - 1)))) (
    need (okRow x12.1 (0 + x12.2.toNat) 13) (
    ∃ n14 : Int, ((partAt x12.1 (0 + x12.2.toNat) 1 1 : Option (List V)) = some [V.int IntKind.i64 n14]) ∧ (
    br (eqI n14 id) (
      need (andB (leI 0 x12.2) (ltI x12.2 (Int.ofNat (l9.length - 1)))) (
      need (okRow x12.1 (0 + x12.2.toNat) 13) (
      ∃ xs15 : List (List V), ((putAt x12.1 (0 + x12.2.toNat) 1 [V.int IntKind.i64 1] : Option (List (List V))) = some xs15) ∧ (
      ((exC.mk nx gp id (Int.ofNat 0) (Int.ofNat 0) (l9.length - 1) l9.length (Int.ofNat (l9.length - 1)) : (exL I).C) = exC.mk nx gp id 0 0 (l9.length - 1) l9.length (Int.ofNat (l9.length - 1))) ∧ (
      ∃ m'16 : Nat, (((m'16 : Nat) < m13)) ∧ (
      I (exC.mk nx gp id 0 0 (l9.length - 1) l9.length (Int.ofNat (l9.length - 1))) (exX.mk (procV (l9.eraseIdx k10) ++ ys11) 0) (exX.mk xs15 (addI IntKind.i64 x12.2 1)) m'16)))))) (
      ((exC.mk nx gp id (Int.ofNat 0) (Int.ofNat 0) (l9.length - 1) l9.length (Int.ofNat (l9.length - 1)) : (exL I).C) = exC.mk nx gp id 0 0 (l9.length - 1) l9.length (Int.ofNat (l9.length - 1))) ∧ (
      ∃ m'15 : Nat, (((m'15 : Nat) < m13)) ∧ (
      I (exC.mk nx gp id 0 0 (l9.length - 1) l9.length (Int.ofNat (l9.length - 1))) (exX.mk (procV (l9.eraseIdx k10) ++ ys11) 0) (exX.mk x12.1 (addI IntKind.i64 x12.2 1)) m'15))))))) (
    K (V.tup [V.agg [V.int IntKind.i64 nx, V.int IntKind.i64 gp, V.lst (List.take (l9.length - 1) (List.drop 0 x12.1))], V.int IntKind.i64 0]) []))))))))))) := by kernel_rfl

end Go.Proofs.YthhpdnlfhofanaaGreatDoor
namespace Go.Proofs.YthhpdnlfhofanaaGreatDoor
open Go.RowKit
set_option maxRecDepth 100000
set_option linter.unusedVariables false
set_option linter.unusedSimpArgs false
theorem cfgX_ok [MaxL] : CfgOk Tryz.prog cfgX where
  prim := cfgN_ok.prim
  self := cfgN_ok.self
  clone := cfgN_ok.clone
  bstr := cfgN_ok.bstr
  dfr := cfgN_ok.dfr
theorem pdel_vc [MaxL] (xs : List (List V)) (n m : Nat) (i j : Int) (K : V → List Bk → Prop) : vcF Tryz.prog cfgX (ctOf []) (lpOf []) 52 [.ref 0 0 n m, .int .i64 i, .int .i64 j] [⟨true, false, true, xs, 0⟩] K = delP 13 168 [.int .i64 0, .int .i64 0, .int .i64 0, .str [], .str [], .int .i64 0, .int .i64 0, .int .i64 0, .str [], .nils, .str [], .nils, .bool false] xs n m i j K := by kernel_rfl
theorem pd_con [MaxL] {n : Nat} (hn : 1 ≤ n) : ConOk (evalF Tryz.prog cfgX n) 52 delPCon := by
  intro vs bs K h
  unfold delPCon at h
  split at h
  · obtain ⟨l, k, rfl, rfl, rfl, rfl, rfl, hk, hb, hK⟩ := h
    refine run_of (lp := lpOf []) hn (fun k _ => noCt_ok _) ?_
    have hl := procV_len l
    have := delP_of (z := 13) (b := 168) (Z := [.int .i64 0, .int .i64 0, .int .i64 0, .str [], .str [], .int .i64 0, .int .i64 0, .int .i64 0, .str [], .nils, .str [], .nils, .bool false]) (xs := procV l) (k := k) (K := K) (fun r hr => by
      obtain ⟨s, _, rfl⟩ := List.mem_map.1 hr
      rfl) (by omega) (by omega) (fun ys => by
        rw [hl, show (procV l).eraseIdx k = procV (l.eraseIdx k) from by simp [procV, List.eraseIdx_eq_take_drop_succ, List.map_take, List.map_drop]]
        exact hK ys)
    rw [hl] at this
    rw [pdel_vc]
    exact this
  · exact h.elim
/-- A process whose parent has gone has the first one as its parent. -/
def repP (id : Int) (p : Proc) : Proc := if p.parent = id then { p with parent := 1 } else p
def exitL (id : Int) (k : Nat) (l : List Proc) : List Proc := (l.eraseIdx k).map (repP id)
theorem rep_at {id : Int} {t : List Proc} {j : Nat} {x : Proc} (h : t[j]? = some x) : (t.take (j + 1)).map (repP id) ++ t.drop (j + 1) = ((t.take j).map (repP id) ++ t.drop j).set j (repP id x) := by
  obtain ⟨hj, rfl⟩ := List.getElem?_eq_some_iff.1 h
  rw [List.take_succ_eq_append_getElem hj, List.map_append, List.set_append_right _ _ (by simp; omega)]
  rw [show j - ((t.take j).map (repP id)).length = 0 by simp; omega]
  rw [List.drop_eq_getElem_cons hj, List.set_cons_zero]
  simp
theorem ex_run [MaxL] (nx gp id : Int) (l : List Proc) (k : Nat) (hk : k < l.length) (hb : l.length ≤ 70) (K : V → List Bk → Prop) (hK : K (.tup [.agg [.int .i64 nx, .int .i64 gp, .lst (procV (exitL id k l))], .int .i64 0]) []) :
    vcCode Tryz.prog cfgX (ctOf [(52, delPCon)]) (lpOf [(15, exL fun _ _ x m => ∃ (j : Nat) (ys : List (List V)), x.j = (j : Int) ∧ j + m = l.length - 1 ∧ x.ys = procV (((l.eraseIdx k).take j).map (repP id) ++ (l.eraseIdx k).drop j) ++ ys)]) 0 exK restC
      ⟨[(1, .int .i64 id), (6, .ptr 1 0 0), (8, .ptr 0 0 0), (9, .int .i64 (k : Int))], [(0, ⟨true, true, true, [[.int .i64 nx, .int .i64 gp, .ref 2 0 l.length l.length]], 0⟩), (1, ⟨true, true, true, [[.int .i64 0, .int .i64 0, .nils]], 0⟩), (2, ⟨true, false, true, procV l, 0⟩)]⟩ (exEnd K) := by
  rw [ex_vc]
  have hel : (l.eraseIdx k).length = l.length - 1 := by rw [List.length_eraseIdx_of_lt hk]
  refine ⟨l, k, rfl, rfl, rfl, rfl, by rw [addI_i64 (by omega) (by omega)]; rfl, hk, by omega, fun zs => ⟨⟨l.length - 1, by omega, 0, zs, rfl, by omega, by simp⟩, ?_⟩⟩
  rintro ⟨ys, j⟩ m ⟨j, ws, rfl, hj, rfl⟩
  dsimp only
  generalize ht : l.eraseIdx k = t at hel ⊢
  have hlen : (List.map (repP id) (t.take j) ++ t.drop j).length = t.length := by simp; omega
  rw [br_iff]
  refine ⟨fun hlt => ?_, fun hge => ?_⟩
  · have hlt : j < t.length := by simp only [br_iff, need_iff, andB_t, andB_f, orB_t, orB_f, notB_t, notB_f, leI_t, leI_f, ltI_t, ltI_f, eqI_t, eqI_f, leN_t, leN_f, eqN_t, eqN_f, eqS_t, eqS_f, eqB_t, eqB_f, catOk_t, leC_t, Int.ofNat_eq_natCast] at hlt; omega
    obtain ⟨x, hx⟩ : ∃ x, t[j]? = some x := ⟨_, List.getElem?_eq_getElem hlt⟩
    have hx2 : (List.map (repP id) (t.take j) ++ t.drop j)[j]? = some x := by
      rw [List.getElem?_append_right (by simp; omega), show j - (List.map (repP id) (t.take j)).length = 0 by simp; omega, List.getElem?_drop]; simpa using hx
    have hin : andB (leI 0 (j : Int)) (ltI (j : Int) (Int.ofNat (l.length - 1))) = true := by simp only [br_iff, need_iff, andB_t, andB_f, orB_t, orB_f, notB_t, notB_f, leI_t, leI_f, ltI_t, ltI_f, eqI_t, eqI_f, leN_t, leN_f, eqN_t, eqN_f, eqS_t, eqS_f, eqB_t, eqB_f, catOk_t, leC_t, Int.ofNat_eq_natCast]; omega
    have hrow : (procV (List.map (repP id) (t.take j) ++ t.drop j) ++ ws)[j]? = some x.v := by
      rw [List.getElem?_append_left (by rw [procV_len, hlen]; omega), procV_get, hx2]; rfl
    have hok : okRow (procV (List.map (repP id) (t.take j) ++ t.drop j) ++ ws) (0 + (j : Int).toNat) 13 = true := by
      simp only [Nat.zero_add, Int.toNat_natCast, okRow, hrow]; rfl
    rw [need_iff]; refine ⟨hin, ?_⟩
    rw [need_iff]; refine ⟨hok, ?_⟩
    refine ⟨x.parent, by simp only [Nat.zero_add, Int.toNat_natCast, partAt, hrow]; rfl, ?_⟩
    rw [br_iff]
    refine ⟨fun g => ?_, fun g => ?_⟩
    · simp only [br_iff, need_iff, andB_t, andB_f, orB_t, orB_f, notB_t, notB_f, leI_t, leI_f, ltI_t, ltI_f, eqI_t, eqI_f, leN_t, leN_f, eqN_t, eqN_f, eqS_t, eqS_f, eqB_t, eqB_f, catOk_t, leC_t] at g
      rw [need_iff]; refine ⟨hin, ?_⟩
      rw [need_iff]; refine ⟨hok, ?_⟩
      refine ⟨procV ((List.map (repP id) (t.take j) ++ t.drop j).set j (repP id x)) ++ ws, ?_, by trivial, m - 1, by omega, j + 1, ws, by rw [addI_i64 (by omega) (by omega)]; omega, by omega, ?_⟩
      · simp only [Nat.zero_add, Int.toNat_natCast, putAt, hrow]
        have e1 : put x.v 1 [V.int IntKind.i64 1] = some (repP id x).v := by rw [repP, if_pos g]; rfl
        have e2 : (procV (List.map (repP id) (t.take j) ++ t.drop j) ++ ws).set j (repP id x).v = procV ((List.map (repP id) (t.take j) ++ t.drop j).set j (repP id x)) ++ ws := by
          rw [List.set_append_left _ _ (by rw [procV_len, hlen]; omega), procV_set]
        simp only [e1, Option.map_some, Option.bind_some, e2]
      · rw [rep_at hx]
    · simp only [br_iff, need_iff, andB_t, andB_f, orB_t, orB_f, notB_t, notB_f, leI_t, leI_f, ltI_t, ltI_f, eqI_t, eqI_f, leN_t, leN_f, eqN_t, eqN_f, eqS_t, eqS_f, eqB_t, eqB_f, catOk_t, leC_t] at g
      refine ⟨by trivial, m - 1, by omega, j + 1, ws, by rw [addI_i64 (by omega) (by omega)]; omega, by omega, ?_⟩
      rw [rep_at hx, show repP id x = x by rw [repP, if_neg g]]
      rw [show (List.map (repP id) (t.take j) ++ t.drop j).set j x = List.map (repP id) (t.take j) ++ t.drop j from by
        obtain ⟨hj2, e⟩ := List.getElem?_eq_some_iff.1 hx2
        rw [← e, List.set_getElem_self]]
  · have : j = t.length := by simp only [br_iff, need_iff, andB_t, andB_f, orB_t, orB_f, notB_t, notB_f, leI_t, leI_f, ltI_t, ltI_f, eqI_t, eqI_f, leN_t, leN_f, eqN_t, eqN_f, eqS_t, eqS_f, eqB_t, eqB_f, catOk_t, leC_t, Int.ofNat_eq_natCast] at hge; omega
    subst this
    have e : List.take (l.length - 1) (List.drop 0 (procV (List.map (repP id) (t.take t.length) ++ t.drop t.length) ++ ws)) = procV (exitL id k l) := by
      rw [List.drop_zero, List.take_length, List.drop_length, List.append_nil, List.take_left' (by rw [procV_len]; simp; omega), exitL, ht]
    rw [e]; exact hK
end Go.Proofs.YthhpdnlfhofanaaGreatDoor
namespace Go.Proofs.YthhpdnlfhofanaaGreatDoor
open Go.RowKit
set_option maxRecDepth 100000
set_option linter.unusedVariables false
set_option linter.unusedSimpArgs false
theorem finish_run {P : Program} {cfg : Cfg} {gl : Gl} {C : Ctx} {p n : Nat} {m : Gh} {f : FuncId} {fn : Func} {st : St} {r : V} {out : List Bk} (e : finish P cfg f fn p st = some (r, out)) {a : Act} {w : World} (hs : Sim gl C p m n st a w) :
    ∃ x S' m', (results fn a.tmps).run P w = .ok x w ∧ Inv C S' m' (enumB 0 out) w ∧ RV m' S' w r x := by
  obtain ⟨⟨S1, m1, hi1, ht1, hp1⟩, _, hdf⟩ := hs
  unfold finish at e
  split at e
  · cases e
  · rename_i vs' rr' e2
    split at e
    · cases e
    · rename_i r0 h0 e3
      split at e
      · cases e
      · rename_i ids bs0 e4
        split at e
        · rename_i r1 bs1 e5 e6
          injection e with e
          injection e with e7 e8
          subst e7; subst e8
          obtain ⟨x, hr, hv⟩ := results_run ht1 hi1 e2
          obtain ⟨S2, m2, hx2, hv2⟩ := shapeV_run e3 hi1 hv
          obtain ⟨hn, hpi, hbk⟩ := export_run e4
          exact ⟨x, S2, ghOf ids m2, hr, export_inv hx2.inv hn hbk e6, renT_run ghOf_ren e5 hv2⟩
        · cases e
/-- The three blocks that Exit's end works on. -/
def gh3 (g6 g8 B n : Nat) : Gh := fun s => match s with
  | 0 => some ⟨.cells, g8, 0, 3, 1, 3⟩
  | 1 => some ⟨.cells, g6, 0, 3, 1, 3⟩
  | 2 => some ⟨.cells, B, 0, 13, n, n * 13⟩
  | _ => none
theorem inv3 {w : World} {S : Nat → Prop} (nx gp : Int) (l : List Proc) (g6 g8 B : Nat) (arr : Array Value) (h0 : 0 < l.length) (hS : ∀ b, S b → b < w.heap.size ∧ b ≠ g6 ∧ b ≠ g8 ∧ b ≠ B) (hne : g6 ≠ g8 ∧ g6 ≠ B ∧ g8 ≠ B)
    (b8 : Blk w g8 41 #[.int .i64 nx, .int .i64 gp, .slice (some ⟨B, 0, none⟩) l.length l.length]) (b6 : Blk w g6 41 #[.int .i64 0, .int .i64 0, .slice none 0 0]) (bB : Blk w B 45 arr) (hsz : arr.size = l.length * 13)
    (hrow : ∀ (i : Nat) p (j : Nat) v, l[i]? = some p → p.v[j]? = some v → ∃ u, arr[i * 13 + j]? = some u ∧ RV (fun _ => none) S w v u) :
    Inv ⟨w, S, fun b => b = g6 ∨ b = g8 ∨ b = B, fun b => b = g6 ∨ b = g8 ∨ b = B, []⟩ S (gh3 g6 g8 B l.length)
      [(0, ⟨true, true, true, [[.int .i64 nx, .int .i64 gp, .ref 2 0 l.length l.length]], 0⟩), (1, ⟨true, true, true, [[.int .i64 0, .int .i64 0, .nils]], 0⟩), (2, ⟨true, false, true, procV l, 0⟩)] w := by
  have hget : ∀ s b, hget [(0, (⟨true, true, true, [[.int .i64 nx, .int .i64 gp, .ref 2 0 l.length l.length]], 0⟩ : Bk)), (1, ⟨true, true, true, [[.int .i64 0, .int .i64 0, .nils]], 0⟩), (2, ⟨true, false, true, procV l, 0⟩)] s = some b →
      (s = 0 ∧ b = ⟨true, true, true, [[.int .i64 nx, .int .i64 gp, .ref 2 0 l.length l.length]], 0⟩) ∨ (s = 1 ∧ b = ⟨true, true, true, [[.int .i64 0, .int .i64 0, .nils]], 0⟩) ∨ (s = 2 ∧ b = ⟨true, false, true, procV l, 0⟩) := by
    intro s b h
    rw [hget_cons, hget_cons, hget_cons] at h
    split at h
    · rename_i e; subst e; injection h with h; exact .inl ⟨rfl, h.symm⟩
    · split at h
      · rename_i e; subst e; injection h with h; exact .inr (.inl ⟨rfl, h.symm⟩)
      · split at h
        · rename_i e; subst e; injection h with h; exact .inr (.inr ⟨rfl, h.symm⟩)
        · cases h
  have one : ∀ {α : Type} {x c : α} {i : Nat}, [x][i]? = some c → i = 0 ∧ c = x := fun {α x c i} h => by
    match i, h with
    | 0, h => simp at h; exact ⟨rfl, h.symm⟩
    | i + 1, h => simp at h
  have three : ∀ {α : Type} {x y z c : α} {i : Nat}, [x, y, z][i]? = some c → (i = 0 ∧ c = x) ∨ (i = 1 ∧ c = y) ∨ (i = 2 ∧ c = z) := fun {α x y z c i} h => by
    match i, h with
    | 0, h => simp at h; exact .inl ⟨rfl, h.symm⟩
    | 1, h => simp at h; exact .inr (.inl ⟨rfl, h.symm⟩)
    | 2, h => simp at h; exact .inr (.inr ⟨rfl, h.symm⟩)
    | i + 3, h => simp at h
  refine ⟨rfl, rfl, rfl, Nat.le_refl _, fun _ _ _ => rfl, fun s r h => ?_, fun s b h hl => ?_, fun s s' b b' r r' hss hs hs' hl hl' hr hr' hn hn' => ?_, fun s b r hs hl hr hn => ?_, fun b h => (hS b h).1, fun b h => .inl h, fun b h => h⟩
  · match s, h with
    | 0, _ => exact ⟨_, rfl⟩
    | 1, _ => exact ⟨_, rfl⟩
    | 2, _ => exact ⟨_, rfl⟩
  · rcases hget s b h with ⟨rfl, rfl⟩ | ⟨rfl, rfl⟩ | ⟨rfl, rfl⟩
    · refine ⟨_, rfl, ⟨(fun h => by cases h), fun _ => ⟨_, b8, ⟨rfl, (fun h => absurd rfl h)⟩, (fun _ => rfl), rfl, by simp, (fun h => by cases h), (fun h => by cases h), rfl, (fun h => by cases h), fun i c j v hc hv => ?_, fun i c hc => ?_⟩⟩⟩
      · obtain ⟨rfl, rfl⟩ := one hc
        rcases three hv with ⟨rfl, rfl⟩ | ⟨rfl, rfl⟩ | ⟨rfl, rfl⟩ <;> rfl
      · obtain ⟨rfl, rfl⟩ := one hc
        refine ⟨rfl, fun j v hv => ?_⟩
        rcases three hv with ⟨rfl, rfl⟩ | ⟨rfl, rfl⟩ | ⟨rfl, rfl⟩
        · exact ⟨_, rfl, .int _ _⟩
        · exact ⟨_, rfl, .int _ _⟩
        · exact ⟨_, rfl, RV.ref 2 0 l.length l.length l.length ⟨.cells, B, 0, 13, l.length, l.length * 13⟩ rfl rfl (by simp) (Nat.le_refl _) (Nat.le_refl _) (by simp)⟩
    · refine ⟨_, rfl, ⟨(fun h => by cases h), fun _ => ⟨_, b6, ⟨rfl, (fun h => absurd rfl h)⟩, (fun _ => rfl), rfl, by simp, (fun h => by cases h), (fun h => by cases h), rfl, (fun h => by cases h), fun i c j v hc hv => ?_, fun i c hc => ?_⟩⟩⟩
      · obtain ⟨rfl, rfl⟩ := one hc
        rcases three hv with ⟨rfl, rfl⟩ | ⟨rfl, rfl⟩ | ⟨rfl, rfl⟩ <;> rfl
      · obtain ⟨rfl, rfl⟩ := one hc
        refine ⟨rfl, fun j v hv => ?_⟩
        rcases three hv with ⟨rfl, rfl⟩ | ⟨rfl, rfl⟩ | ⟨rfl, rfl⟩
        · exact ⟨_, rfl, .int _ _⟩
        · exact ⟨_, rfl, .int _ _⟩
        · exact ⟨_, rfl, .nils⟩
    · have hat : ∀ {i : Nat} {c : List V}, (procV l)[i]? = some c → ∃ p, l[i]? = some p ∧ c = p.v := fun {i c} hc => by
        rw [procV_get] at hc
        obtain ⟨p, hp, e⟩ := Option.map_eq_some_iff.1 hc
        exact ⟨p, hp, e.symm⟩
      refine ⟨_, rfl, ⟨(fun h => by cases h), fun _ => ⟨_, bB, ⟨rfl, (fun h => absurd rfl h)⟩, (fun _ => rfl), hsz, by simp, (fun _ => by simp), (fun h => absurd (show l.length = 0 from h) (by omega)), by simp [procV_len], (fun _ i c j v hc hv => ?_), fun i c j v hc hv => ?_, fun i c hc => ?_⟩⟩⟩
      · obtain ⟨p, hp, rfl⟩ := hat hc
        have hj : j < 13 := by have := (List.getElem?_eq_some_iff.1 hv).1; simpa [Proc.v] using this
        simp only [Proc.v] at hv
        match j, hj, hv with
        | 0, _, hv => cases hv; rfl
        | 1, _, hv => cases hv; rfl
        | 2, _, hv => cases hv; rfl
        | 3, _, hv => cases hv; rfl
        | 4, _, hv => cases hv; rfl
        | 5, _, hv => cases hv; rfl
        | 6, _, hv => cases hv; rfl
        | 7, _, hv => cases hv; rfl
        | 8, _, hv => cases hv; rfl
        | 9, _, hv => cases hv; rfl
        | 10, _, hv => cases hv; rfl
        | 11, _, hv => cases hv; rfl
        | 12, _, hv => cases hv; rfl
      · obtain ⟨p, hp, rfl⟩ := hat hc
        have hj : j < 13 := by have := (List.getElem?_eq_some_iff.1 hv).1; simpa [Proc.v] using this
        simp only [Proc.v] at hv
        match j, hj, hv with
        | 0, _, hv => cases hv; rfl
        | 1, _, hv => cases hv; rfl
        | 2, _, hv => cases hv; rfl
        | 3, _, hv => cases hv; rfl
        | 4, _, hv => cases hv; rfl
        | 5, _, hv => cases hv; rfl
        | 6, _, hv => cases hv; rfl
        | 7, _, hv => cases hv; rfl
        | 8, _, hv => cases hv; rfl
        | 9, _, hv => cases hv; rfl
        | 10, _, hv => cases hv; rfl
        | 11, _, hv => cases hv; rfl
        | 12, _, hv => cases hv; rfl
      · obtain ⟨p, hp, rfl⟩ := hat hc
        refine ⟨rfl, fun j v hv => ?_⟩
        obtain ⟨u, hu, hr⟩ := hrow i p j v hp hv
        exact ⟨u, by simpa using hu, hr.mono (fun _ _ h => by cases h) (fun _ h => h) (fun _ _ => rfl)⟩
  · rcases hget s b hs with ⟨rfl, rfl⟩ | ⟨rfl, rfl⟩ | ⟨rfl, rfl⟩ <;> rcases hget s' b' hs' with ⟨rfl, rfl⟩ | ⟨rfl, rfl⟩ | ⟨rfl, rfl⟩ <;> cases hr <;> cases hr' <;> first | exact absurd rfl hss | exact hne.1 | exact hne.1.symm | exact hne.2.1 | exact hne.2.1.symm | exact hne.2.2 | exact hne.2.2.symm
  · rcases hget s b hs with ⟨rfl, rfl⟩ | ⟨rfl, rfl⟩ | ⟨rfl, rfl⟩ <;> cases hr
    · exact ⟨.inr (.inr (.inl rfl)), fun _ => ⟨.inr (.inr (.inl rfl)), fun h => (hS _ h).2.2.1 rfl⟩, fun h => by cases h⟩
    · exact ⟨.inr (.inl rfl), fun _ => ⟨.inr (.inl rfl), fun h => (hS _ h).2.1 rfl⟩, fun h => by cases h⟩
    · exact ⟨.inr (.inr (.inr rfl)), fun _ => ⟨.inr (.inr (.inr rfl)), fun h => (hS _ h).2.2.2 rfl⟩, fun h => by cases h⟩
theorem suffix_wp [MaxL] {w : World} {a : Act} {Q : Exit → Act → World → Prop} {S : Nat → Prop} (nx gp id : Int) (l : List Proc) (k g6 g8 B : Nat) (arr : Array Value) (hk : k < l.length) (hb : l.length ≤ 70)
    (hS : ∀ b, S b → b < w.heap.size ∧ b ≠ g6 ∧ b ≠ g8 ∧ b ≠ B) (hne : g6 ≠ g8 ∧ g6 ≠ B ∧ g8 ≠ B)
    (b8 : Blk w g8 41 #[.int .i64 nx, .int .i64 gp, .slice (some ⟨B, 0, none⟩) l.length l.length]) (b6 : Blk w g6 41 #[.int .i64 0, .int .i64 0, .slice none 0 0]) (bB : Blk w B 45 arr) (hsz : arr.size = l.length * 13)
    (hrow : ∀ (i : Nat) p (j : Nat) v, l[i]? = some p → p.v[j]? = some v → ∃ u, arr[i * 13 + j]? = some u ∧ RV (fun _ => none) S w v u)
    (hgl : GlobR cfgX.glob (fun _ => none) S w) (hew : ExW cfgX.glob w) (hsize : a.tmps.size = Tryz.f15.ntmps) (hd : a.defers = [])
    (h1 : a.tmps.getD 1 undef = .int .i64 id) (h6 : a.tmps.getD 6 undef = .pointer (some ⟨g6, 0, none⟩)) (h8 : a.tmps.getD 8 undef = .pointer (some ⟨g8, 0, none⟩)) (h9 : a.tmps.getD 9 undef = .int .i64 (k : Int))
    (hQ : ∀ a' w' x S', a'.defers = [] → (results Tryz.f15 a'.tmps).run Tryz.prog w' = .ok x w' → Fr (fun b => b = g6 ∨ b = g8 ∨ b = B) w w' → (∀ b, S' b → b < w'.heap.size ∧ (S b ∨ w.heap.size ≤ b ∨ b = g6 ∨ b = g8 ∨ b = B)) → (∀ b, S b → S' b) →
      RV (fun _ => none) S' w' (.tup [.agg [.int .i64 nx, .int .i64 gp, .lst (procV (exitL id k l))], .int .i64 0]) x → Q .ret a' w') : restC.wp Tryz.prog Q a w := by
  have hcall : CallOk Tryz.prog cfgX (evalF Tryz.prog cfgX 5) := callV_ok cfgX_ok (evalF_ok mixedOk namesOk dstsOk cfgX_ok 5)
  obtain ⟨ex, st', hev, hK⟩ := vcCode_run (ct := ctOf [(52, delPCon)]) (call := evalF Tryz.prog cfgX 5) (ctOf_ok (ctOf_cons (pd_con (by omega)) (ctOf_nil _))) restC
    (ex_run nx gp id l k hk hb (fun r out => r = .tup [.agg [.int .i64 nx, .int .i64 gp, .lst (procV (exitL id k l))], .int .i64 0] ∧ out = []) ⟨rfl, rfl⟩)
  have hinv := inv3 nx gp l g6 g8 B arr (by omega) hS hne b8 b6 bB hsz hrow
  have hnt : 9 < a.tmps.size := by rw [hsize]; exact of_decide_eq_true (by kernel_rfl)
  have hsim : Sim cfgX.glob ⟨w, S, fun b => b = g6 ∨ b = g8 ∨ b = B, fun b => b = g6 ∨ b = g8 ∨ b = B, []⟩ 0 (fun _ => none) Tryz.f15.ntmps
      ⟨[(1, .int .i64 id), (6, .ptr 1 0 0), (8, .ptr 0 0 0), (9, .int .i64 (k : Int))], [(0, ⟨true, true, true, [[.int .i64 nx, .int .i64 gp, .ref 2 0 l.length l.length]], 0⟩), (1, ⟨true, true, true, [[.int .i64 0, .int .i64 0, .nils]], 0⟩), (2, ⟨true, false, true, procV l, 0⟩)]⟩ a w := by
    refine ⟨⟨S, _, hinv, ⟨fun t v hv => ?_, hgl.sub fun _ h => h⟩, fun i hi => absurd hi (Nat.not_lt_zero _)⟩, hsize, hd, ?_⟩
    · have hc : (t = 1 ∧ v = .int .i64 id) ∨ (t = 6 ∧ v = .ptr 1 0 0) ∨ (t = 8 ∧ v = .ptr 0 0 0) ∨ (t = 9 ∧ v = .int .i64 (k : Int)) := by
        have tg : ∀ (s : Nat) (u : V) (ts : Tmps), tget ((s, u) :: ts) t = if s = t then some u else tget ts t := by
          intro s u ts
          simp only [tget]
          by_cases e : s = t
          · subst e; simp
          · have : Nat.beq s t = false := by rw [← Bool.not_eq_true, Nat.beq_eq]; exact e
            rw [this, if_neg e]; rfl
        rw [tg, tg, tg, tg] at hv
        split at hv
        · rename_i e; injection hv with hv; exact .inl ⟨e.symm, hv.symm⟩
        · split at hv
          · rename_i e; injection hv with hv; exact .inr (.inl ⟨e.symm, hv.symm⟩)
          · split at hv
            · rename_i e; injection hv with hv; exact .inr (.inr (.inl ⟨e.symm, hv.symm⟩))
            · split at hv
              · rename_i e; injection hv with hv; exact .inr (.inr (.inr ⟨e.symm, hv.symm⟩))
              · cases hv
      rcases hc with ⟨rfl, rfl⟩ | ⟨rfl, rfl⟩ | ⟨rfl, rfl⟩ | ⟨rfl, rfl⟩
      · exact ⟨by omega, by rw [h1]; exact .int _ _⟩
      · exact ⟨by omega, by rw [h6]; exact RV.ptr 1 0 0 ⟨.cells, g6, 0, 3, 1, 3⟩ rfl rfl (by simp)⟩
      · exact ⟨by omega, by rw [h8]; exact RV.ptr 0 0 0 ⟨.cells, g8, 0, 3, 1, 3⟩ rfl rfl (by simp)⟩
      · exact ⟨by omega, by rw [h9]; exact .int _ _⟩
    · exact hew.start fun g cs hg hp => by
        have := hS g (hgl.inS hg)
        rcases hp with rfl | rfl | rfl
        · exact this.2.1 rfl
        · exact this.2.2.1 rfl
        · exact this.2.2.2 rfl
  refine evCode_wp hcall namesOk (draw_ok mixedOk hcall namesOk) restC hev (by kernel_rfl) hsim fun a' w' hs' => ?_
  unfold exEnd at hK
  split at hK
  · split at hK
    · rename_i r out hf
      obtain ⟨rfl, rfl⟩ := hK
      obtain ⟨x, S', m', hr, hi, hv⟩ := finish_run hf hs'
      refine hQ a' w' x S' hs'.defers hr ⟨hi.os, hi.tape, hi.output, hi.size, fun b hb hn => hi.frame b hb hn⟩ (fun b h => ⟨hi.st b h, ?_⟩) hi.stOld (treeTB_rv rfl hv)
      rcases hi.stNew b h with q | q | q
      · exact .inl q
      · exact .inr (.inl q)
      · exact .inr (.inr q)
    · exact hK.elim
  · exact hK.elim
end Go.Proofs.YthhpdnlfhofanaaGreatDoor
namespace Go.Proofs.YthhpdnlfhofanaaGreatDoor
open Go.RowKit
set_option maxRecDepth 100000
set_option linter.unusedVariables false
set_option linter.unusedSimpArgs false
def isIdxP (l : List Proc) (id i : Int) : Prop := (i = -1 ∧ ∀ p ∈ l, p.id ≠ id) ∨ ∃ k : Nat, i = (k : Int) ∧ (∀ p ∈ l.take k, p.id ≠ id) ∧ ∃ p, l[k]? = some p ∧ p.id = id

def ixPCon : Con := fun vs bs K => match vs, bs with
  | [.lst xs, .func 125 [] [.ptr 0 0 0]], [⟨true, true, true, [[.int .i64 id]], 0⟩] => ∃ l : List Proc, xs = procV l ∧ l.length ≤ 100000 ∧ ∀ i, isIdxP l id i → K (.int .i64 i) [⟨true, true, true, [[.int .i64 id]], 0⟩]
  | _, _ => False

structure ipC where
  xs : List (List V)
  id : Int
  cnt : Int
structure ipX where
  i : Int
def ipSt (c : ipC) (x : ipX) : St := ⟨[(0, .lst c.xs), (1, .func 125 [] [.ptr 0 0 0]), (7, .int .i64 c.cnt), (8, .int .i64 x.i)], [(0, ⟨true, true, true, [[.int .i64 c.id]], 0⟩)]⟩
set_option maxHeartbeats 4000000 in
def ipUn (s : St) : Option (ipC × ipX) :=
  match s with
  | ⟨[(q0, .lst xs), (q1, .func q2 [] [.ptr q3 q4 q5]), (q6, .int .i64 cnt), (q7, .int .i64 i)], [(q8, ⟨true, true, true, [[.int .i64 id]], q9⟩)]⟩ => bif Nat.beq q0 0 && Nat.beq q1 1 && Nat.beq q2 125 && Nat.beq q3 0 && Nat.beq q4 0 && Nat.beq q5 0 && Nat.beq q6 7 && Nat.beq q7 8 && Nat.beq q8 0 && Nat.beq q9 0 then some (⟨xs, id, cnt⟩, ⟨i⟩) else none
  | _ => none
set_option maxHeartbeats 4000000 in
def ipL (inv : ipC → ipX → ipX → Nat → Prop) : LoopS where
  C := ipC
  X := ipX
  st := ipSt
  un := ipUn
  ok := by
    intro s c x h
    unfold ipUn at h
    split at h
    · simp only [Bool.cond_eq_ite] at h
      split at h
      · rename_i hg
        simp only [Bool.and_eq_true, Nat.beq_eq] at hg
        obtain ⟨⟨⟨⟨⟨⟨⟨⟨⟨rfl, rfl⟩, rfl⟩, rfl⟩, rfl⟩, rfl⟩, rfl⟩, rfl⟩, rfl⟩, rfl⟩ := hg
        cases h
        rfl
      · cases h
    · cases h
  inv := inv

theorem ip_vc [MaxL] (xs : List (List V)) (id : Int) (I : ipC → ipX → ipX → Nat → Prop) (K : V → List Bk → Prop) : vcF Tryz.prog cfgN (ctOf [(125, inlC Tryz.prog cfgN (ctOf []) 125)]) (lpOf [(2, ipL I)]) 124 [.lst xs, .func 125 [] [.ptr 0 0 0]] [⟨true, true, true, [[.int .i64 id]], 0⟩] K = (
  (∃ m5 : Nat, (((m5 : Nat) < 18446744073709551616)) ∧ (
  I (ipC.mk xs id (lenL xs)) (ipX.mk 0) (ipX.mk 0) m5)) ∧ (
  ∀ x5 : (ipL I).X, ∀ m6 : Nat, (I (ipC.mk xs id (lenL xs)) (ipX.mk 0) x5 m6) → (
  br (ltI x5.1 (lenL xs)) (
    need (andB (leI 0 x5.1) (ltI x5.1 (lenL xs))) (
    need (okRow xs x5.1.toNat 13) (
    ∃ n7 : Int, ∃ n8 : Int, ∃ n9 : Int, ∃ s10 : List UInt8, ∃ s11 : List UInt8, ∃ n12 : Int, ∃ n13 : Int, ∃ n14 : Int, ∃ s15 : List UInt8, ∃ xs16 : List (List V), ∃ s17 : List UInt8, ∃ xs18 : List (List V), ∃ b19 : Bool, ((sub (rowAt xs x5.1) 0 13 : Option (List V)) = some [V.int IntKind.i64 n7, V.int IntKind.i64 n8, V.int IntKind.i64 n9, V.str s10, V.str s11, V.int IntKind.i64 n12, V.int IntKind.i64 n13, V.int IntKind.i64 n14, V.str s15, V.lst xs16, V.str s17, V.lst xs18, V.bool b19]) ∧ (
    br (eqI n7 id) (
      K (V.int IntKind.i64 x5.1) [Bk.mk true true true [[V.int IntKind.i64 id]] 0]) (
      ((ipC.mk xs id (lenL xs) : (ipL I).C) = ipC.mk xs id (lenL xs)) ∧ (
      ∃ m'20 : Nat, (((m'20 : Nat) < m6)) ∧ (
      I (ipC.mk xs id (lenL xs)) (ipX.mk 0) (ipX.mk (addI IntKind.i64 x5.1 1)) m'20))))))) (
    K (V.int IntKind.i64 (-1)) [Bk.mk true true true [[V.int IntKind.i64 id]] 0])))) := by kernel_rfl

theorem ix_vc [MaxL] (nx gp : Int) (xs : List (List V)) (id : Int) (K : V → List Bk → Prop) : vcF Tryz.prog cfgN (ctOf [(124, ixPCon)]) (lpOf []) 43 [.agg [.int .i64 nx, .int .i64 gp, .lst xs], .int .i64 id] [] K = (
  ∃ l6 : List Proc, ((xs : List (List V)) = procV l6) ∧ (
  (((l6.length : Nat) ≤ 100000)) ∧ (
  ∀ i7 : Int, (isIdxP l6 id i7) → (
  K (V.int IntKind.i64 i7) [])))) := by kernel_rfl

end Go.Proofs.YthhpdnlfhofanaaGreatDoor
namespace Go.Proofs.YthhpdnlfhofanaaGreatDoor
open Go.RowKit
set_option maxRecDepth 100000
set_option linter.unusedVariables false
set_option linter.unusedSimpArgs false
theorem noP_snoc {id : Int} {l : List Proc} {i : Nat} {x : Proc} (h : ∀ y ∈ l.take i, y.id ≠ id) (hx : l[i]? = some x) (c : x.id ≠ id) : ∀ y ∈ l.take (i + 1), y.id ≠ id := by
  obtain ⟨hi, rfl⟩ := List.getElem?_eq_some_iff.1 hx
  rw [List.take_succ_eq_append_getElem hi]
  intro y hy
  rcases List.mem_append.1 hy with hy | hy
  · exact h y hy
  · obtain rfl := List.mem_singleton.1 hy; exact c
theorem ip_con [MaxL] {n : Nat} (hn : 2 ≤ n) : ConOk (evalF Tryz.prog cfgN n) 124 ixPCon := by
  intro vs bs K h
  unfold ixPCon at h
  split at h
  · rename_i xs id
    obtain ⟨l, rfl, hb, hK⟩ := h
    refine run_of (lp := lpOf [(2, ipL fun _ _ x m => ∃ j : Nat, x.i = (j : Int) ∧ j + m = l.length ∧ ∀ y ∈ l.take j, y.id ≠ id)]) (by omega) (ct := ctOf [(125, inlC Tryz.prog cfgN (ctOf []) 125)]) (fun q hq => ctOf_ok (ctOf_cons (inl_ok (by omega) fun _ _ => noCt_ok _) (ctOf_nil _))) ?_
    rw [ip_vc]
    simp only [procV_lenL]
    refine ⟨⟨l.length, by omega, 0, rfl, by omega, by simp⟩, ?_⟩
    rintro ⟨i⟩ m' ⟨j, rfl, hj, hp⟩
    dsimp only
    rw [br_iff]
    refine ⟨fun hlt => ?_, fun hge => ?_⟩
    · have hlt : j < l.length := by simp only [br_iff, need_iff, andB_t, andB_f, orB_t, orB_f, notB_t, notB_f, leI_t, leI_f, ltI_t, ltI_f, eqI_t, eqI_f, leN_t, leN_f, eqN_t, eqN_f, eqS_t, eqS_f, eqB_t, eqB_f, catOk_t, leC_t] at hlt; omega
      obtain ⟨x, hx⟩ : ∃ x, l[j]? = some x := ⟨_, List.getElem?_eq_getElem (by omega)⟩
      rw [need_iff]; refine ⟨by simp only [br_iff, need_iff, andB_t, andB_f, orB_t, orB_f, notB_t, notB_f, leI_t, leI_f, ltI_t, ltI_f, eqI_t, eqI_f, leN_t, leN_f, eqN_t, eqN_f, eqS_t, eqS_f, eqB_t, eqB_f, catOk_t, leC_t]; omega, ?_⟩
      rw [need_iff]; refine ⟨by simpa using procV_ok (l := l) (i := j) (by omega), ?_⟩
      refine ⟨x.id, x.parent, x.state, x.user, x.name, x.ns, x.env, x.fds, x.cwd, strV x.notes, x.status, waitV x.waits, x.alone, by rw [procV_row hx]; rfl, ?_⟩
      rw [br_iff]
      refine ⟨fun g => hK _ (.inr ⟨j, rfl, hp, x, hx, by simpa only [br_iff, need_iff, andB_t, andB_f, orB_t, orB_f, notB_t, notB_f, leI_t, leI_f, ltI_t, ltI_f, eqI_t, eqI_f, leN_t, leN_f, eqN_t, eqN_f, eqS_t, eqS_f, eqB_t, eqB_f, catOk_t, leC_t] using g⟩), fun g => ⟨by trivial, m' - 1, by omega, j + 1, by rw [addI_i64 (by omega) (by omega)]; omega, by omega, noP_snoc hp hx (by simpa only [br_iff, need_iff, andB_t, andB_f, orB_t, orB_f, notB_t, notB_f, leI_t, leI_f, ltI_t, ltI_f, eqI_t, eqI_f, leN_t, leN_f, eqN_t, eqN_f, eqS_t, eqS_f, eqB_t, eqB_f, catOk_t, leC_t] using g)⟩⟩
    · have : j = l.length := by simp only [br_iff, need_iff, andB_t, andB_f, orB_t, orB_f, notB_t, notB_f, leI_t, leI_f, ltI_t, ltI_f, eqI_t, eqI_f, leN_t, leN_f, eqN_t, eqN_f, eqS_t, eqS_f, eqB_t, eqB_f, catOk_t, leC_t] at hge; omega
      subst this
      exact hK _ (.inl ⟨rfl, fun y hy => hp y (by simpa using hy)⟩)
  · exact h.elim
def ixCon2 : Con := fun vs bs K => match vs, bs with
  | [.agg [.int .i64 nx, .int .i64 gp, .lst xs], .int .i64 id], [] => ∃ l : List Proc, xs = procV l ∧ l.length ≤ 100000 ∧ ∀ i, isIdxP l id i → K (.int .i64 i) []
  | _, _ => False
theorem ixp_con [MaxL] {n : Nat} (hn : 3 ≤ n) : ConOk (evalF Tryz.prog cfgN n) 43 ixCon2 := by
  intro vs bs K h
  unfold ixCon2 at h
  split at h
  · obtain ⟨l, rfl, hb, hK⟩ := h
    refine run_of (lp := lpOf []) (by omega) (ct := ctOf [(124, ixPCon)]) (fun q hq => ctOf_ok (ctOf_cons (ip_con (by omega)) (ctOf_nil _))) ?_
    rw [ix_vc]
    exact ⟨l, rfl, hb, hK⟩
  · exact h.elim
theorem index_any [MaxL] (nx gp id : Int) (l : List Proc) (hb : l.length ≤ 70) {S : Nat → Prop} {w : World} {x : Value} (hS : ∀ b, S b → b < w.heap.size) (hx : RV (fun _ => none) S w (.agg [.int .i64 nx, .int .i64 gp, .lst (procV l)]) x) (hgl : GlobR cfgN.glob (fun _ => none) S w) (hew : ExW cfgN.glob w) :
    Calls Tryz.prog 43 #[x, .int .i64 id] w fun e w' => ∃ i, e = .returned (.int .i64 i) ∧ isIdxP l id i ∧ Below w.heap.size w w' := by
  obtain ⟨r, out, hev, hK⟩ := ixp_con (Nat.le_refl 3) [.agg [.int .i64 nx, .int .i64 gp, .lst (procV l)], .int .i64 id] [] (fun r out => ∃ i, r = .int .i64 i ∧ out = [] ∧ isIdxP l id i) ⟨l, rfl, by omega, fun i hi => ⟨i, rfl, rfl, hi⟩⟩
  obtain ⟨i, rfl, rfl, hi⟩ := hK
  refine (eval_calls mixedOk namesOk dstsOk cfgN_ok hev hS (xs := [x, .int .i64 id]) (.cons hx (.cons (.int _ _) .nil)) hgl hew).mono fun e w' ⟨S', m', y, h1, h2, h3⟩ => ?_
  cases h3
  exact ⟨i, h1, hi, h2.os, h2.tape, h2.output, h2.size, fun b hb => h2.frame b hb fun h => h⟩
section
variable {m : Gh} {S : Nat → Prop} {w : World} {base : Nat}
theorem rv_notes {A : Option Addr} {c : Nat} {l : List (List UInt8)} (h : Own w base 9 1 A l.length c (notesC l)) (hS : ∀ g off, A = some ⟨g, off, none⟩ → S g) : RV m S w (.lst (strV l)) (.slice A l.length c) := by
  rcases l with _ | ⟨s, t⟩
  · exact .lst0 A c
  · obtain ⟨_, hr⟩ := h.reads
    obtain ⟨b, off, rfl, _, hc⟩ := hr (by simp)
    have hl : (strV (s :: t)).length = (s :: t).length := by simp [strV]
    have := RV.lst (m := m) (S := S) (w := w) (strV (s :: t)) b off 1 c (fun i _ => .string ⟨⟨(s :: t)[i]?.getD []⟩⟩) (hS b off rfl) (by rw [hl]; exact h.cap.1)
      (fun i q hq => by
        have : q ∈ strV (s :: t) := List.mem_of_getElem? hq
        simp only [strV, List.mem_map] at this
        obtain ⟨a, _, rfl⟩ := this; rfl)
      (fun i q j v hq hv => by
        simp only [strV, List.getElem?_map] at hq
        obtain ⟨a, ha, rfl⟩ := Option.map_eq_some_iff.1 hq
        match j, hv with
        | 0, hv =>
          have := hc i (.string ⟨⟨a⟩⟩) (by unfold notesC; rw [List.getElem?_map, ha]; rfl)
          rw [ha]; simpa using this)
      (fun i q j v hq hv => by
        simp only [strV, List.getElem?_map] at hq
        obtain ⟨a, ha, rfl⟩ := Option.map_eq_some_iff.1 hq
        match j, hv with
        | 0, hv => cases hv; rfl)
      (fun i q j v hq hv => by
        simp only [strV, List.getElem?_map] at hq
        obtain ⟨a, ha, rfl⟩ := Option.map_eq_some_iff.1 hq
        match j, hv with
        | 0, hv => cases hv; rw [ha]; exact .str _)
    rw [hl] at this
    exact this
theorem waitsC_at : ∀ {l : List Wait} {i : Nat} {x : Wait}, l[i]? = some x → (waitsC l)[i * 2]? = some (.int .i64 x.id) ∧ (waitsC l)[i * 2 + 1]? = some (.string ⟨⟨x.status⟩⟩)
  | y :: t, 0, x, h => by simp at h; subst h; exact ⟨rfl, rfl⟩
  | y :: t, i + 1, x, h => by
    have := waitsC_at (l := t) (i := i) (x := x) (by simpa using h)
    rw [show (i + 1) * 2 = i * 2 + 2 by omega, show i * 2 + 2 + 1 = i * 2 + 1 + 2 by omega]
    simpa [waitsC] using this
theorem rv_waits {A : Option Addr} {c : Nat} {l : List Wait} (h : Own w base 129 2 A l.length c (waitsC l)) (hS : ∀ g off, A = some ⟨g, off, none⟩ → S g) : RV m S w (.lst (waitV l)) (.slice A l.length c) := by
  rcases l with _ | ⟨s, t⟩
  · exact .lst0 A c
  · obtain ⟨_, hr⟩ := h.reads
    obtain ⟨b, off, rfl, _, hc⟩ := hr (by simp)
    have hl : (waitV (s :: t)).length = (s :: t).length := by simp [waitV]
    have := RV.lst (m := m) (S := S) (w := w) (waitV (s :: t)) b off 2 c (fun i j => if j = 0 then .int .i64 (((s :: t)[i]?.getD default).id) else .string ⟨⟨((s :: t)[i]?.getD default).status⟩⟩) (hS b off rfl) (by rw [hl]; exact h.cap.1)
      (fun i q hq => by
        have : q ∈ waitV (s :: t) := List.mem_of_getElem? hq
        simp only [waitV, List.mem_map] at this
        obtain ⟨a, _, rfl⟩ := this; rfl)
      (fun i q j v hq hv => by
        simp only [waitV, List.getElem?_map] at hq
        obtain ⟨a, ha, rfl⟩ := Option.map_eq_some_iff.1 hq
        obtain ⟨e1, e2⟩ := waitsC_at ha
        match j, hv with
        | 0, hv => rw [ha]; simpa using hc _ _ e1
        | 1, hv => rw [ha]; simpa [Nat.add_assoc] using hc _ _ e2)
      (fun i q j v hq hv => by
        simp only [waitV, List.getElem?_map] at hq
        obtain ⟨a, ha, rfl⟩ := Option.map_eq_some_iff.1 hq
        match j, hv with
        | 0, hv => cases hv; rfl
        | 1, hv => cases hv; rfl)
      (fun i q j v hq hv => by
        simp only [waitV, List.getElem?_map] at hq
        obtain ⟨a, ha, rfl⟩ := Option.map_eq_some_iff.1 hq
        match j, hv with
        | 0, hv => cases hv; rw [ha]; exact .int _ _
        | 1, hv => cases hv; rw [ha]; exact .str _)
    rw [hl] at this
    exact this
/-- A process in memory reads as a tree. -/
theorem ProcR.rv {p : Proc} {u : Array Value} {lo hi : Nat} (h : ProcR p u lo hi w) (hS : ∀ b, lo ≤ b → b < hi → b < w.heap.size → S b) : ∀ (j : Nat) v, p.v[j]? = some v → ∃ y, u[j]? = some y ∧ RV m S w v y := by
  obtain ⟨A, B, c, d, rfl, h1, h2, h3, h4⟩ := h
  intro j v hv
  have hj : j < 13 := by have := (List.getElem?_eq_some_iff.1 hv).1; simpa [Proc.v] using this
  simp only [Proc.v] at hv
  match j, hj, hv with
  | 0, _, hv => cases hv; exact ⟨_, rfl, .int _ _⟩
  | 1, _, hv => cases hv; exact ⟨_, rfl, .int _ _⟩
  | 2, _, hv => cases hv; exact ⟨_, rfl, .int _ _⟩
  | 3, _, hv => cases hv; exact ⟨_, rfl, .str _⟩
  | 4, _, hv => cases hv; exact ⟨_, rfl, .str _⟩
  | 5, _, hv => cases hv; exact ⟨_, rfl, .int _ _⟩
  | 6, _, hv => cases hv; exact ⟨_, rfl, .int _ _⟩
  | 7, _, hv => cases hv; exact ⟨_, rfl, .int _ _⟩
  | 8, _, hv => cases hv; exact ⟨_, rfl, .str _⟩
  | 9, _, hv => cases hv; exact ⟨_, rfl, rv_notes h1 fun g off hg => hS g (h1.lt hg).1 (h3 g off hg) (h1.lt hg).2.1⟩
  | 10, _, hv => cases hv; exact ⟨_, rfl, .str _⟩
  | 11, _, hv => cases hv; exact ⟨_, rfl, rv_waits h2 fun g off hg => hS g (h2.lt hg).1 (h4 g off hg) (h2.lt hg).2.1⟩
  | 12, _, hv => cases hv; exact ⟨_, rfl, .bool _⟩
end
theorem rowsL_get {us : Nat → Array Value} : ∀ {n : Nat}, (∀ i, i < n → (us i).size = 13) → ∀ {i j : Nat}, i < n → j < 13 → (rowsL us n)[i * 13 + j]? = (us i)[j]?
  | n + 1, h, i, j, hi, hj => by
    have hl := rowsL_len (us := us) (j := n) (fun i hi => h i (by omega))
    by_cases q : i = n
    · subst q
      rw [rowsL, List.getElem?_append_right (by omega), hl, show i * 13 + j - i * 13 = j by omega]; simp
    · rw [rowsL, List.getElem?_append_left (by omega)]
      exact rowsL_get (fun i hi => h i (by omega)) (by omega) hj
end Go.Proofs.YthhpdnlfhofanaaGreatDoor
namespace Go.Proofs.YthhpdnlfhofanaaGreatDoor
open Go.RowKit
set_option maxRecDepth 100000
set_option linter.unusedVariables false
set_option linter.unusedSimpArgs false
/-- A table whose rows lie in block B, and whose lists lie in blocks from b0 up to b1, row after row. -/
def Tab (ps : List Proc) (B b0 b1 : Nat) (us : Nat → Array Value) (lo hi : Nat → Nat) (W : World) : Prop :=
  W.heap[B]? = some (.cells (rowsL us ps.length).toArray 45 (0, 0)) ∧ (∀ i p, ps[i]? = some p → ProcR p (us i) (lo i) (hi i) W ∧ (us i).size = 13 ∧ b0 ≤ lo i ∧ lo i ≤ hi i ∧ hi i ≤ b1) ∧ (∀ i k, i < k → k < ps.length → hi i ≤ lo k)
section
variable {ps : List Proc} {B b0 b1 : Nat} {us : Nat → Array Value} {lo hi : Nat → Nat} {W W' : World}
theorem Tab.fr {S : Nat → Prop} (h : Tab ps B b0 b1 us lo hi W) (hf : Fr S W W') (hS : ∀ k, S k → k ≠ B ∧ (k < b0 ∨ b1 ≤ k)) : Tab ps B b0 b1 us lo hi W' := by
  have hB := (Array.getElem?_eq_some_iff.1 h.1).1
  refine ⟨(hf.block B hB fun hb => (hS B hb).1 rfl).trans h.1, fun i p hp => ?_, h.2.2⟩
  obtain ⟨a1, a2, a3, a4, a5⟩ := h.2.1 i p hp
  exact ⟨a1.fr hf fun k hk => by rcases (hS k hk).2 with q | q <;> omega, a2, a3, a4, a5⟩
theorem Tab.below (h : Tab ps B b0 b1 us lo hi W) (hf : Below W.heap.size W W') : Tab ps B b0 b1 us lo hi W' := h.fr (S := fun _ => False) ⟨hf.os, hf.tape, hf.output, hf.size, fun k hk _ => hf.block k hk⟩ (fun k hk => hk.elim)
theorem Tab.sizes (h : Tab ps B b0 b1 us lo hi W) : ∀ i, i < ps.length → (us i).size = 13 := fun i hi => (h.2.1 i _ (List.getElem?_eq_getElem hi)).2.1
theorem Tab.cell (h : Tab ps B b0 b1 us lo hi W) {i j : Nat} (hi' : i < ps.length) (hj : j < 13) : W.cell? ⟨B, i * 13 + j, none⟩ = (us i)[j]? := by
  rw [cell_of_row W B _ _ _ _ h.1]
  simpa using rowsL_get h.sizes hi' hj
theorem Tab.rv {m : Gh} {S : Nat → Prop} (h : Tab ps B b0 b1 us lo hi W) (hB : S B) (hS : ∀ b, b0 ≤ b → b < b1 → b < W.heap.size → S b) : RV m S W (.lst (procV ps)) (.slice (some ⟨B, 0, none⟩) ps.length ps.length) := by
  have key : ∀ i p (j : Nat) v, ps[i]? = some p → p.v[j]? = some v → ∃ y, (us i)[j]? = some y ∧ RV m S W v y := fun i p j v hp hv => by
    obtain ⟨a1, a2, a3, a4, a5⟩ := h.2.1 i p hp
    exact a1.rv (fun b h1 h2 h3 => hS b (by omega) (by omega) h3) j v hv
  have hat : ∀ {i : Nat} {c : List V}, (procV ps)[i]? = some c → ∃ p, ps[i]? = some p ∧ c = p.v := fun {i c} hc => by
    rw [procV_get] at hc
    obtain ⟨p, hp, e⟩ := Option.map_eq_some_iff.1 hc
    exact ⟨p, hp, e.symm⟩
  have := RV.lst (m := m) (S := S) (w := W) (procV ps) B 0 13 ps.length (fun i j => ((us i)[j]?).getD undef) hB (by rw [procV_len]; exact Nat.le_refl _)
    (fun i c hc => by obtain ⟨p, hp, rfl⟩ := hat hc; rfl)
    (fun i c j v hc hv => by
      obtain ⟨p, hp, rfl⟩ := hat hc
      have hj : j < 13 := by have := (List.getElem?_eq_some_iff.1 hv).1; simpa [Proc.v] using this
      obtain ⟨y, hy, _⟩ := key i p j v hp hv
      rw [show 0 + i * 13 + j = i * 13 + j by omega, h.cell (List.getElem?_eq_some_iff.1 hp).1 hj, hy]; rfl)
    (fun i c j v hc hv => by
      obtain ⟨p, hp, rfl⟩ := hat hc
      have hj : j < 13 := by have := (List.getElem?_eq_some_iff.1 hv).1; simpa [Proc.v] using this
      simp only [Proc.v] at hv
      match j, hj, hv with
      | 0, _, hv => cases hv; rfl
      | 1, _, hv => cases hv; rfl
      | 2, _, hv => cases hv; rfl
      | 3, _, hv => cases hv; rfl
      | 4, _, hv => cases hv; rfl
      | 5, _, hv => cases hv; rfl
      | 6, _, hv => cases hv; rfl
      | 7, _, hv => cases hv; rfl
      | 8, _, hv => cases hv; rfl
      | 9, _, hv => cases hv; rfl
      | 10, _, hv => cases hv; rfl
      | 11, _, hv => cases hv; rfl
      | 12, _, hv => cases hv; rfl)
    (fun i c j v hc hv => by
      obtain ⟨p, hp, rfl⟩ := hat hc
      obtain ⟨y, hy, hr⟩ := key i p j v hp hv
      simp only [hy]; exact hr)
  rw [procV_len] at this
  exact this
end
/-- What Exit gives. -/
def exitV (nx gp : Int) (ps : List Proc) (id : Int) (st : List UInt8) (i : Int) (k : Int) : V :=
  if i < 0 then .tup [.agg [.int .i64 nx, .int .i64 gp, .lst (procV ps)], .int .i64 42]
  else if id = 1 then .tup [.agg [.int .i64 nx, .int .i64 gp, .lst (procV ps)], .int .i64 43]
  else if 1024 < st.length then .tup [.agg [.int .i64 nx, .int .i64 gp, .lst (procV ps)], .int .i64 4]
  else .tup [.agg [.int .i64 nx, .int .i64 gp, .lst (procV (exitL id i.toNat
    (if 0 ≤ k ∧ (ps[i.toNat]?.map Proc.alone) = some false ∧ ((ps[k.toNat]?.map fun p => p.waits.length).getD 64) < 64 then ps.modify k.toNat (fun p => { p with waits := p.waits ++ [⟨id, st⟩] }) else ps)))], .int .i64 0]
end Go.Proofs.YthhpdnlfhofanaaGreatDoor
