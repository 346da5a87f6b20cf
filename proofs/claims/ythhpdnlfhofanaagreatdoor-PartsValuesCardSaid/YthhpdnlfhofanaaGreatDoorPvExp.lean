/- The shell's values: conditions of words and here documents. -/
import Derived.Test.YthhpdnlfhofanaaGreatDoorPvEnv
namespace Go.Proofs.YthhpdnlfhofanaaGreatDoor
open Go.RowKit
set_option maxRecDepth 100000
set_option linter.unusedVariables false
set_option linter.unusedSimpArgs false
def hereCon : Con := fun vs bs K => match vs, bs with
  | [.lst xs, .int .i64 1, .str s], [] => ∃ (nx : Int) (E : Ev), xs = envV nx E ∧ smallE E ∧ s.length ≤ 1000 ∧ K (.tup [.str (hereF E (s.length + 1) s []).1, .int .i64 (hereF E (s.length + 1) s []).2]) []
  | _, _ => False

structure wdC where
  xs : List (List V)
  zs : List (List V)
  cnt : Int
structure wdX where
  ys : List (List V)
  a : Nat
  b : Nat
  i : Int
def wdSt (c : wdC) (x : wdX) : St := ⟨[(9, .lst c.xs), (11, .ref 0 0 x.a x.b), (24, .lst c.zs), (25, .int .i64 c.cnt), (26, .int .i64 x.i)], [(0, ⟨true, false, true, x.ys, 0⟩)]⟩
set_option maxHeartbeats 4000000 in
def wdUn (s : St) : Option (wdC × wdX) :=
  match s with
  | ⟨[(q0, .lst xs), (q1, .ref q2 q3 a b), (q4, .lst zs), (q5, .int .i64 cnt), (q6, .int .i64 i)], [(q7, ⟨true, false, true, ys, q8⟩)]⟩ => bif Nat.beq q0 9 && Nat.beq q1 11 && Nat.beq q2 0 && Nat.beq q3 0 && Nat.beq q4 24 && Nat.beq q5 25 && Nat.beq q6 26 && Nat.beq q7 0 && Nat.beq q8 0 then some (⟨xs, zs, cnt⟩, ⟨ys, a, b, i⟩) else none
  | _ => none
set_option maxHeartbeats 4000000 in
def wdL (inv : wdC → wdX → wdX → Nat → Prop) : LoopS where
  C := wdC
  X := wdX
  st := wdSt
  un := wdUn
  ok := by
    intro s c x h
    unfold wdUn at h
    split at h
    · simp only [Bool.cond_eq_ite] at h
      split at h
      · rename_i hg
        simp only [Bool.and_eq_true, Nat.beq_eq] at hg
        obtain ⟨⟨⟨⟨⟨⟨⟨⟨rfl, rfl⟩, rfl⟩, rfl⟩, rfl⟩, rfl⟩, rfl⟩, rfl⟩, rfl⟩ := hg
        cases h
        rfl
      · cases h
    · cases h
  inv := inv

structure heC where
  xs : List (List V)
  gi : Int
structure heX where
  s : List UInt8
  bn : Nat
  bk : Nat
  es : List (List V)
def heSt (c : heC) (x : heX) : St := ⟨[(0, .lst c.xs), (1, .int .i64 c.gi), (2, .str x.s), (8, .ptr 0 0 0)], [(0, ⟨true, true, true, [[.slf 0, .ref 1 0 x.bn x.bk]], 113000006⟩), (1, ⟨true, false, true, x.es, 6⟩)]⟩
set_option maxHeartbeats 4000000 in
def heUn (s : St) : Option (heC × heX) :=
  match s with
  | ⟨[(q0, .lst xs), (q1, .int .i64 gi), (q2, .str s), (q3, .ptr q4 q5 q6)], [(q7, ⟨true, true, true, [[.slf q8, .ref q9 q10 bn bk]], q11⟩), (q12, ⟨true, false, true, es, q13⟩)]⟩ => bif Nat.beq q0 0 && Nat.beq q1 1 && Nat.beq q2 2 && Nat.beq q3 8 && Nat.beq q4 0 && Nat.beq q5 0 && Nat.beq q6 0 && Nat.beq q7 0 && Nat.beq q8 0 && Nat.beq q9 1 && Nat.beq q10 0 && Nat.beq q11 113000006 && Nat.beq q12 1 && Nat.beq q13 6 then some (⟨xs, gi⟩, ⟨s, bn, bk, es⟩) else none
  | _ => none
set_option maxHeartbeats 4000000 in
def heL (inv : heC → heX → heX → Nat → Prop) : LoopS where
  C := heC
  X := heX
  st := heSt
  un := heUn
  ok := by
    intro s c x h
    unfold heUn at h
    split at h
    · simp only [Bool.cond_eq_ite] at h
      split at h
      · rename_i hg
        simp only [Bool.and_eq_true, Nat.beq_eq] at hg
        obtain ⟨⟨⟨⟨⟨⟨⟨⟨⟨⟨⟨⟨⟨rfl, rfl⟩, rfl⟩, rfl⟩, rfl⟩, rfl⟩, rfl⟩, rfl⟩, rfl⟩, rfl⟩, rfl⟩, rfl⟩, rfl⟩, rfl⟩ := hg
        cases h
        rfl
      · cases h
    · cases h
  inv := inv

structure hnC where
  xs : List (List V)
  gi : Int
  r : List UInt8
  bn : Nat
  bk : Nat
  es : List (List V)
structure hnX where
  i : Int
def hnSt (c : hnC) (x : hnX) : St := ⟨[(0, .lst c.xs), (1, .int .i64 c.gi), (8, .ptr 0 0 0), (10, .str c.r), (12, .int .i64 x.i)], [(0, ⟨true, true, true, [[.slf 0, .ref 1 0 c.bn c.bk]], 113000006⟩), (1, ⟨true, false, true, c.es, 6⟩)]⟩
set_option maxHeartbeats 4000000 in
def hnUn (s : St) : Option (hnC × hnX) :=
  match s with
  | ⟨[(q0, .lst xs), (q1, .int .i64 gi), (q2, .ptr q3 q4 q5), (q6, .str r), (q7, .int .i64 i)], [(q8, ⟨true, true, true, [[.slf q9, .ref q10 q11 bn bk]], q12⟩), (q13, ⟨true, false, true, es, q14⟩)]⟩ => bif Nat.beq q0 0 && Nat.beq q1 1 && Nat.beq q2 8 && Nat.beq q3 0 && Nat.beq q4 0 && Nat.beq q5 0 && Nat.beq q6 10 && Nat.beq q7 12 && Nat.beq q8 0 && Nat.beq q9 0 && Nat.beq q10 1 && Nat.beq q11 0 && Nat.beq q12 113000006 && Nat.beq q13 1 && Nat.beq q14 6 then some (⟨xs, gi, r, bn, bk, es⟩, ⟨i⟩) else none
  | _ => none
set_option maxHeartbeats 4000000 in
def hnL (inv : hnC → hnX → hnX → Nat → Prop) : LoopS where
  C := hnC
  X := hnX
  st := hnSt
  un := hnUn
  ok := by
    intro s c x h
    unfold hnUn at h
    split at h
    · simp only [Bool.cond_eq_ite] at h
      split at h
      · rename_i hg
        simp only [Bool.and_eq_true, Nat.beq_eq] at hg
        obtain ⟨⟨⟨⟨⟨⟨⟨⟨⟨⟨⟨⟨⟨⟨rfl, rfl⟩, rfl⟩, rfl⟩, rfl⟩, rfl⟩, rfl⟩, rfl⟩, rfl⟩, rfl⟩, rfl⟩, rfl⟩, rfl⟩, rfl⟩, rfl⟩ := hg
        cases h
        rfl
      · cases h
    · cases h
  inv := inv

noncomputable def wo1 [MaxL] : Con := inlC Tryz.prog cfgN (ctOf [(73, vlCon), (142, quCon)]) 64

theorem w2_vc [MaxL] (xs : List (List V)) (nm : List UInt8) (I : wdC → wdX → wdX → Nat → Prop) (K : V → List Bk → Prop) : vcF Tryz.prog cfgN (ctOf [(64, wo1), (65, teCon)]) (lpOf [(6, wdL I)]) 19 [.lst xs, .int .i64 1, .agg [.int .i64 2, .str nm, .str [], .lst [], .lst []]] [] K = (
  ∃ nx5 : Int, ∃ E6 : Ev, ((xs : List (List V)) = [[V.int IntKind.i64 1, V.int IntKind.i64 nx5, V.lst (varV E6)]]) ∧ (
  (smallE E6) ∧ (
  (((nm.length : Nat) ≤ 1000)) ∧ (
  ∃ l7 : List (List UInt8), ((strV (valF E6 nm) : List (List V)) = strV l7) ∧ (
  (((l7.length : Nat) ≤ 300)) ∧ (
  (longL l7 1000) ∧ (
  (∃ m8 : Nat, (((m8 : Nat) < 18446744073709551616)) ∧ (
  I (wdC.mk (valV (quoF l7)) (valV (quoF l7)) (lenL (valV (quoF l7)))) (wdX.mk [] 0 0 0) (wdX.mk [] 0 0 0) m8)) ∧ (
  ∀ x8 : (wdL I).X, ∀ m9 : Nat, (I (wdC.mk (valV (quoF l7)) (valV (quoF l7)) (lenL (valV (quoF l7)))) (wdX.mk [] 0 0 0) x8 m9) → (
  br (ltI x8.4 (lenL (valV (quoF l7)))) (
    need (andB (leI 0 x8.4) (ltI x8.4 (lenL (valV (quoF l7))))) (
    need (okRow (valV (quoF l7)) x8.4.toNat 2) (
    ∃ s10 : List UInt8, ∃ s11 : List UInt8, ((sub (rowAt (valV (quoF l7)) x8.4) 0 2 : Option (List V)) = some [V.str s10, V.str s11]) ∧ (
    need (headOkP 1 x8.1) (
    br (leN (x8.2 + 1) x8.3) (
      ((wdC.mk (valV (quoF l7)) (valV (quoF l7)) (lenL (valV (quoF l7))) : (wdL I).C) = wdC.mk (valV (quoF l7)) (valV (quoF l7)) (lenL (valV (quoF l7)))) ∧ (
      ∃ m'12 : Nat, (((m'12 : Nat) < m9)) ∧ (
      I (wdC.mk (valV (quoF l7)) (valV (quoF l7)) (lenL (valV (quoF l7)))) (wdX.mk [] 0 0 0) (wdX.mk (List.take (0 + x8.2) x8.1 ++ [[V.str s11]] ++ List.drop (0 + x8.2 + 1) x8.1) (x8.2 + 1) x8.3 (addI IntKind.i64 x8.4 1)) m'12))) (
      need (eqN (0 + x8.2) x8.1.length) (
      need (leN ((x8.2 + 1) * 16) 140737488355328) (
      ((wdC.mk (valV (quoF l7)) (valV (quoF l7)) (lenL (valV (quoF l7))) : (wdL I).C) = wdC.mk (valV (quoF l7)) (valV (quoF l7)) (lenL (valV (quoF l7)))) ∧ (
      ∃ m'12 : Nat, (((m'12 : Nat) < m9)) ∧ (
      I (wdC.mk (valV (quoF l7)) (valV (quoF l7)) (lenL (valV (quoF l7)))) (wdX.mk [] 0 0 0) (wdX.mk (List.drop 0 x8.1 ++ [[V.str s11]]) (x8.2 + 1) (x8.2 + 1) (addI IntKind.i64 x8.4 1)) m'12)))))))))) (
    ∃ l10 : List Val, ((valV (quoF l7) : List (List V)) = valV l10) ∧ (
    (((l10.length : Nat) ≤ 300)) ∧ (
    K (V.tup [V.lst (strV (textsF l10)), V.lst (List.take x8.2 (List.drop 0 x8.1)), V.int IntKind.i64 0]) [])))))))))))) := by kernel_rfl

theorem w3_vc [MaxL] (xs : List (List V)) (nm : List UInt8) (I : wdC → wdX → wdX → Nat → Prop) (K : V → List Bk → Prop) : vcF Tryz.prog cfgN (ctOf [(64, wo1), (65, teCon)]) (lpOf [(6, wdL I)]) 19 [.lst xs, .int .i64 1, .agg [.int .i64 3, .str nm, .str [], .lst [], .lst []]] [] K = (
  ∃ nx5 : Int, ∃ E6 : Ev, ((xs : List (List V)) = [[V.int IntKind.i64 1, V.int IntKind.i64 nx5, V.lst (varV E6)]]) ∧ (
  (smallE E6) ∧ (
  (((nm.length : Nat) ≤ 1000)) ∧ (
  need (inI64 (lenL (strV (valF E6 nm)))) (
  ∃ l7 : List (List UInt8), (([[V.str (textN 10 (lenL (strV (valF E6 nm))))]] : List (List V)) = strV l7) ∧ (
  (((l7.length : Nat) ≤ 300)) ∧ (
  (longL l7 1000) ∧ (
  (∃ m8 : Nat, (((m8 : Nat) < 18446744073709551616)) ∧ (
  I (wdC.mk (valV (quoF l7)) (valV (quoF l7)) (lenL (valV (quoF l7)))) (wdX.mk [] 0 0 0) (wdX.mk [] 0 0 0) m8)) ∧ (
  ∀ x8 : (wdL I).X, ∀ m9 : Nat, (I (wdC.mk (valV (quoF l7)) (valV (quoF l7)) (lenL (valV (quoF l7)))) (wdX.mk [] 0 0 0) x8 m9) → (
  br (ltI x8.4 (lenL (valV (quoF l7)))) (
    need (andB (leI 0 x8.4) (ltI x8.4 (lenL (valV (quoF l7))))) (
    need (okRow (valV (quoF l7)) x8.4.toNat 2) (
    ∃ s10 : List UInt8, ∃ s11 : List UInt8, ((sub (rowAt (valV (quoF l7)) x8.4) 0 2 : Option (List V)) = some [V.str s10, V.str s11]) ∧ (
    need (headOkP 1 x8.1) (
    br (leN (x8.2 + 1) x8.3) (
      ((wdC.mk (valV (quoF l7)) (valV (quoF l7)) (lenL (valV (quoF l7))) : (wdL I).C) = wdC.mk (valV (quoF l7)) (valV (quoF l7)) (lenL (valV (quoF l7)))) ∧ (
      ∃ m'12 : Nat, (((m'12 : Nat) < m9)) ∧ (
      I (wdC.mk (valV (quoF l7)) (valV (quoF l7)) (lenL (valV (quoF l7)))) (wdX.mk [] 0 0 0) (wdX.mk (List.take (0 + x8.2) x8.1 ++ [[V.str s11]] ++ List.drop (0 + x8.2 + 1) x8.1) (x8.2 + 1) x8.3 (addI IntKind.i64 x8.4 1)) m'12))) (
      need (eqN (0 + x8.2) x8.1.length) (
      need (leN ((x8.2 + 1) * 16) 140737488355328) (
      ((wdC.mk (valV (quoF l7)) (valV (quoF l7)) (lenL (valV (quoF l7))) : (wdL I).C) = wdC.mk (valV (quoF l7)) (valV (quoF l7)) (lenL (valV (quoF l7)))) ∧ (
      ∃ m'12 : Nat, (((m'12 : Nat) < m9)) ∧ (
      I (wdC.mk (valV (quoF l7)) (valV (quoF l7)) (lenL (valV (quoF l7)))) (wdX.mk [] 0 0 0) (wdX.mk (List.drop 0 x8.1 ++ [[V.str s11]]) (x8.2 + 1) (x8.2 + 1) (addI IntKind.i64 x8.4 1)) m'12)))))))))) (
    ∃ l10 : List Val, ((valV (quoF l7) : List (List V)) = valV l10) ∧ (
    (((l10.length : Nat) ≤ 300)) ∧ (
    K (V.tup [V.lst (strV (textsF l10)), V.lst (List.take x8.2 (List.drop 0 x8.1)), V.int IntKind.i64 0]) []))))))))))))) := by kernel_rfl

def he_vc_1 [MaxL] (xs : List (List V)) (s : List UInt8) (I : heC → heX → heX → Nat → Prop) (J : hnC → hnX → hnX → Nat → Prop) (K : V → List Bk → Prop) (x6 : (heL I).X) (m7 : Nat) (x8 : (hnL J).X) : Prop :=
  (
              br (hpF (cutB x6.1 [36]) [36]) (
                need (headOkP 1 (List.take (0 + x6.2) x6.4 ++ List.map (fun c ↦ [V.int IntKind.u8 (Int.ofNat c.toBitVec.toFin.1)]) (cutA x6.1 [36]) ++ List.drop (0 + x6.2 + (List.map (fun c ↦ [V.int IntKind.u8 (Int.ofNat c.toBitVec.toFin.1)]) (cutA x6.1 [36])).length) x6.4)) (
                br (leN (x6.2 + (List.map (fun c ↦ [V.int IntKind.u8 (Int.ofNat c.toBitVec.toFin.1)]) (cutA x6.1 [36])).length + 1) x6.3) (
                  need (andB true (leI 1 (lenS (cutB x6.1 [36])))) (
                  ((heC.mk xs (Int.ofNat 1) : (heL I).C) = heC.mk xs 1) ∧ (
                  ∃ m'10 : Nat, (((m'10 : Nat) < m7)) ∧ (
                  I (heC.mk xs 1) (heX.mk s 0 0 []) (heX.mk (cutS (cutB x6.1 [36]) 1 (lenS (cutB x6.1 [36]))) (x6.2 + (List.map (fun c ↦ [V.int IntKind.u8 (Int.ofNat c.toBitVec.toFin.1)]) (cutA x6.1 [36])).length + 1) x6.3 (List.take (0 + (x6.2 + (List.map (fun c ↦ [V.int IntKind.u8 (Int.ofNat c.toBitVec.toFin.1)]) (cutA x6.1 [36])).length)) (List.take (0 + x6.2) x6.4 ++ List.map (fun c ↦ [V.int IntKind.u8 (Int.ofNat c.toBitVec.toFin.1)]) (cutA x6.1 [36]) ++ List.drop (0 + x6.2 + (List.map (fun c ↦ [V.int IntKind.u8 (Int.ofNat c.toBitVec.toFin.1)]) (cutA x6.1 [36])).length) x6.4) ++ [[V.int IntKind.u8 36]] ++ List.drop (0 + (x6.2 + (List.map (fun c ↦ [V.int IntKind.u8 (Int.ofNat c.toBitVec.toFin.1)]) (cutA x6.1 [36])).length) + 1) (List.take (0 + x6.2) x6.4 ++ List.map (fun c ↦ [V.int IntKind.u8 (Int.ofNat c.toBitVec.toFin.1)]) (cutA x6.1 [36]) ++ List.drop (0 + x6.2 + (List.map (fun c ↦ [V.int IntKind.u8 (Int.ofNat c.toBitVec.toFin.1)]) (cutA x6.1 [36])).length) x6.4))) m'10)))) (
                  need (eqN (0 + (x6.2 + (List.map (fun c ↦ [V.int IntKind.u8 (Int.ofNat c.toBitVec.toFin.1)]) (cutA x6.1 [36])).length)) (List.take (0 + x6.2) x6.4 ++ List.map (fun c ↦ [V.int IntKind.u8 (Int.ofNat c.toBitVec.toFin.1)]) (cutA x6.1 [36]) ++ List.drop (0 + x6.2 + (List.map (fun c ↦ [V.int IntKind.u8 (Int.ofNat c.toBitVec.toFin.1)]) (cutA x6.1 [36])).length) x6.4).length) (
                  need (leN ((x6.2 + (List.map (fun c ↦ [V.int IntKind.u8 (Int.ofNat c.toBitVec.toFin.1)]) (cutA x6.1 [36])).length + 1) * 1) 140737488355328) (
                  need (andB true (leI 1 (lenS (cutB x6.1 [36])))) (
                  ((heC.mk xs (Int.ofNat 1) : (heL I).C) = heC.mk xs 1) ∧ (
                  ∃ m'10 : Nat, (((m'10 : Nat) < m7)) ∧ (
                  I (heC.mk xs 1) (heX.mk s 0 0 []) (heX.mk (cutS (cutB x6.1 [36]) 1 (lenS (cutB x6.1 [36]))) (x6.2 + (List.map (fun c ↦ [V.int IntKind.u8 (Int.ofNat c.toBitVec.toFin.1)]) (cutA x6.1 [36])).length + 1) (x6.2 + (List.map (fun c ↦ [V.int IntKind.u8 (Int.ofNat c.toBitVec.toFin.1)]) (cutA x6.1 [36])).length + 1) (List.drop 0 (List.take (0 + x6.2) x6.4 ++ List.map (fun c ↦ [V.int IntKind.u8 (Int.ofNat c.toBitVec.toFin.1)]) (cutA x6.1 [36]) ++ List.drop (0 + x6.2 + (List.map (fun c ↦ [V.int IntKind.u8 (Int.ofNat c.toBitVec.toFin.1)]) (cutA x6.1 [36])).length) x6.4) ++ [[V.int IntKind.u8 36]])) m'10)))))))) (
                br (eqI x8.1 0) (
                  need (headOkP 1 (List.take (0 + x6.2) x6.4 ++ List.map (fun c ↦ [V.int IntKind.u8 (Int.ofNat c.toBitVec.toFin.1)]) (cutA x6.1 [36]) ++ List.drop (0 + x6.2 + (List.map (fun c ↦ [V.int IntKind.u8 (Int.ofNat c.toBitVec.toFin.1)]) (cutA x6.1 [36])).length) x6.4)) (
                  br (leN (x6.2 + (List.map (fun c ↦ [V.int IntKind.u8 (Int.ofNat c.toBitVec.toFin.1)]) (cutA x6.1 [36])).length + 1) x6.3) (
                    ((heC.mk xs (Int.ofNat 1) : (heL I).C) = heC.mk xs 1) ∧ (
                    ∃ m'10 : Nat, (((m'10 : Nat) < m7)) ∧ (
                    I (heC.mk xs 1) (heX.mk s 0 0 []) (heX.mk (cutB x6.1 [36]) (x6.2 + (List.map (fun c ↦ [V.int IntKind.u8 (Int.ofNat c.toBitVec.toFin.1)]) (cutA x6.1 [36])).length + 1) x6.3 (List.take (0 + (x6.2 + (List.map (fun c ↦ [V.int IntKind.u8 (Int.ofNat c.toBitVec.toFin.1)]) (cutA x6.1 [36])).length)) (List.take (0 + x6.2) x6.4 ++ List.map (fun c ↦ [V.int IntKind.u8 (Int.ofNat c.toBitVec.toFin.1)]) (cutA x6.1 [36]) ++ List.drop (0 + x6.2 + (List.map (fun c ↦ [V.int IntKind.u8 (Int.ofNat c.toBitVec.toFin.1)]) (cutA x6.1 [36])).length) x6.4) ++ [[V.int IntKind.u8 36]] ++ List.drop (0 + (x6.2 + (List.map (fun c ↦ [V.int IntKind.u8 (Int.ofNat c.toBitVec.toFin.1)]) (cutA x6.1 [36])).length) + 1) (List.take (0 + x6.2) x6.4 ++ List.map (fun c ↦ [V.int IntKind.u8 (Int.ofNat c.toBitVec.toFin.1)]) (cutA x6.1 [36]) ++ List.drop (0 + x6.2 + (List.map (fun c ↦ [V.int IntKind.u8 (Int.ofNat c.toBitVec.toFin.1)]) (cutA x6.1 [36])).length) x6.4))) m'10))) (
                    need (eqN (0 + (x6.2 + (List.map (fun c ↦ [V.int IntKind.u8 (Int.ofNat c.toBitVec.toFin.1)]) (cutA x6.1 [36])).length)) (List.take (0 + x6.2) x6.4 ++ List.map (fun c ↦ [V.int IntKind.u8 (Int.ofNat c.toBitVec.toFin.1)]) (cutA x6.1 [36]) ++ List.drop (0 + x6.2 + (List.map (fun c ↦ [V.int IntKind.u8 (Int.ofNat c.toBitVec.toFin.1)]) (cutA x6.1 [36])).length) x6.4).length) (
                    need (leN ((x6.2 + (List.map (fun c ↦ [V.int IntKind.u8 (Int.ofNat c.toBitVec.toFin.1)]) (cutA x6.1 [36])).length + 1) * 1) 140737488355328) (
                    ((heC.mk xs (Int.ofNat 1) : (heL I).C) = heC.mk xs 1) ∧ (
                    ∃ m'10 : Nat, (((m'10 : Nat) < m7)) ∧ (
                    I (heC.mk xs 1) (heX.mk s 0 0 []) (heX.mk (cutB x6.1 [36]) (x6.2 + (List.map (fun c ↦ [V.int IntKind.u8 (Int.ofNat c.toBitVec.toFin.1)]) (cutA x6.1 [36])).length + 1) (x6.2 + (List.map (fun c ↦ [V.int IntKind.u8 (Int.ofNat c.toBitVec.toFin.1)]) (cutA x6.1 [36])).length + 1) (List.drop 0 (List.take (0 + x6.2) x6.4 ++ List.map (fun c ↦ [V.int IntKind.u8 (Int.ofNat c.toBitVec.toFin.1)]) (cutA x6.1 [36]) ++ List.drop (0 + x6.2 + (List.map (fun c ↦ [V.int IntKind.u8 (Int.ofNat c.toBitVec.toFin.1)]) (cutA x6.1 [36])).length) x6.4) ++ [[V.int IntKind.u8 36]])) m'10))))))) (
                  need (andB (leI 0 x8.1) (leI x8.1 (lenS (cutB x6.1 [36])))) (
                  ∃ nx10 : Int, ∃ E11 : Ev, ((xs : List (List V)) = [[V.int IntKind.i64 1, V.int IntKind.i64 nx10, V.lst (varV E11)]]) ∧ (
                  (smallE E11) ∧ (
                  ((((cutS (cutB x6.1 [36]) 0 x8.1).length : Nat) ≤ 1000)) ∧ (
                  need (joinOk (strV (valF E11 (cutS (cutB x6.1 [36]) 0 x8.1))) [32]) (
                  need (headOkP 1 (List.map (fun c ↦ [V.int IntKind.u8 (Int.ofNat c.toBitVec.toFin.1)]) (joinV (strV (valF E11 (cutS (cutB x6.1 [36]) 0 x8.1))) [32]))) (
                  need (headOkP 1 (List.take (0 + x6.2) x6.4 ++ List.map (fun c ↦ [V.int IntKind.u8 (Int.ofNat c.toBitVec.toFin.1)]) (cutA x6.1 [36]) ++ List.drop (0 + x6.2 + (List.map (fun c ↦ [V.int IntKind.u8 (Int.ofNat c.toBitVec.toFin.1)]) (cutA x6.1 [36])).length) x6.4)) (
                  br (leN (x6.2 + (List.map (fun c ↦ [V.int IntKind.u8 (Int.ofNat c.toBitVec.toFin.1)]) (cutA x6.1 [36])).length + (List.map (fun c ↦ [V.int IntKind.u8 (Int.ofNat c.toBitVec.toFin.1)]) (joinV (strV (valF E11 (cutS (cutB x6.1 [36]) 0 x8.1))) [32])).length) x6.3) (
                    need (andB (leI 0 x8.1) (leI x8.1 (lenS (cutB x6.1 [36])))) (
                    ((heC.mk xs (Int.ofNat 1) : (heL I).C) = heC.mk xs 1) ∧ (
                    ∃ m'12 : Nat, (((m'12 : Nat) < m7)) ∧ (
                    I (heC.mk xs 1) (heX.mk s 0 0 []) (heX.mk (tpF (cutS (cutB x6.1 [36]) x8.1 (lenS (cutB x6.1 [36]))) [94]) (x6.2 + (List.map (fun c ↦ [V.int IntKind.u8 (Int.ofNat c.toBitVec.toFin.1)]) (cutA x6.1 [36])).length + (List.map (fun c ↦ [V.int IntKind.u8 (Int.ofNat c.toBitVec.toFin.1)]) (joinV (strV (valF E11 (cutS (cutB x6.1 [36]) 0 x8.1))) [32])).length) x6.3 (List.take (0 + (x6.2 + (List.map (fun c ↦ [V.int IntKind.u8 (Int.ofNat c.toBitVec.toFin.1)]) (cutA x6.1 [36])).length)) (List.take (0 + x6.2) x6.4 ++ List.map (fun c ↦ [V.int IntKind.u8 (Int.ofNat c.toBitVec.toFin.1)]) (cutA x6.1 [36]) ++ List.drop (0 + x6.2 + (List.map (fun c ↦ [V.int IntKind.u8 (Int.ofNat c.toBitVec.toFin.1)]) (cutA x6.1 [36])).length) x6.4) ++ List.map (fun c ↦ [V.int IntKind.u8 (Int.ofNat c.toBitVec.toFin.1)]) (joinV (strV (valF E11 (cutS (cutB x6.1 [36]) 0 x8.1))) [32]) ++ List.drop (0 + (x6.2 + (List.map (fun c ↦ [V.int IntKind.u8 (Int.ofNat c.toBitVec.toFin.1)]) (cutA x6.1 [36])).length) + (List.map (fun c ↦ [V.int IntKind.u8 (Int.ofNat c.toBitVec.toFin.1)]) (joinV (strV (valF E11 (cutS (cutB x6.1 [36]) 0 x8.1))) [32])).length) (List.take (0 + x6.2) x6.4 ++ List.map (fun c ↦ [V.int IntKind.u8 (Int.ofNat c.toBitVec.toFin.1)]) (cutA x6.1 [36]) ++ List.drop (0 + x6.2 + (List.map (fun c ↦ [V.int IntKind.u8 (Int.ofNat c.toBitVec.toFin.1)]) (cutA x6.1 [36])).length) x6.4))) m'12)))) (
                    need (eqN (0 + (x6.2 + (List.map (fun c ↦ [V.int IntKind.u8 (Int.ofNat c.toBitVec.toFin.1)]) (cutA x6.1 [36])).length)) (List.take (0 + x6.2) x6.4 ++ List.map (fun c ↦ [V.int IntKind.u8 (Int.ofNat c.toBitVec.toFin.1)]) (cutA x6.1 [36]) ++ List.drop (0 + x6.2 + (List.map (fun c ↦ [V.int IntKind.u8 (Int.ofNat c.toBitVec.toFin.1)]) (cutA x6.1 [36])).length) x6.4).length) (
                    need (leN ((x6.2 + (List.map (fun c ↦ [V.int IntKind.u8 (Int.ofNat c.toBitVec.toFin.1)]) (cutA x6.1 [36])).length + (List.map (fun c ↦ [V.int IntKind.u8 (Int.ofNat c.toBitVec.toFin.1)]) (joinV (strV (valF E11 (cutS (cutB x6.1 [36]) 0 x8.1))) [32])).length) * 1) 140737488355328) (
                    need (andB (leI 0 x8.1) (leI x8.1 (lenS (cutB x6.1 [36])))) (
                    ((heC.mk xs (Int.ofNat 1) : (heL I).C) = heC.mk xs 1) ∧ (
                    ∃ m'12 : Nat, (((m'12 : Nat) < m7)) ∧ (
                    I (heC.mk xs 1) (heX.mk s 0 0 []) (heX.mk (tpF (cutS (cutB x6.1 [36]) x8.1 (lenS (cutB x6.1 [36]))) [94]) (x6.2 + (List.map (fun c ↦ [V.int IntKind.u8 (Int.ofNat c.toBitVec.toFin.1)]) (cutA x6.1 [36])).length + (List.map (fun c ↦ [V.int IntKind.u8 (Int.ofNat c.toBitVec.toFin.1)]) (joinV (strV (valF E11 (cutS (cutB x6.1 [36]) 0 x8.1))) [32])).length) (x6.2 + (List.map (fun c ↦ [V.int IntKind.u8 (Int.ofNat c.toBitVec.toFin.1)]) (cutA x6.1 [36])).length + (List.map (fun c ↦ [V.int IntKind.u8 (Int.ofNat c.toBitVec.toFin.1)]) (joinV (strV (valF E11 (cutS (cutB x6.1 [36]) 0 x8.1))) [32])).length) (List.drop 0 (List.take (0 + x6.2) x6.4 ++ List.map (fun c ↦ [V.int IntKind.u8 (Int.ofNat c.toBitVec.toFin.1)]) (cutA x6.1 [36]) ++ List.drop (0 + x6.2 + (List.map (fun c ↦ [V.int IntKind.u8 (Int.ofNat c.toBitVec.toFin.1)]) (cutA x6.1 [36])).length) x6.4) ++ List.map (fun c ↦ [V.int IntKind.u8 (Int.ofNat c.toBitVec.toFin.1)]) (joinV (strV (valF E11 (cutS (cutB x6.1 [36]) 0 x8.1))) [32]))) m'12))))))))))))))))
def he_vc_2 [MaxL] (xs : List (List V)) (s : List UInt8) (I : heC → heX → heX → Nat → Prop) (J : hnC → hnX → hnX → Nat → Prop) (K : V → List Bk → Prop) (x6 : (heL I).X) (m7 : Nat) (x8 : (hnL J).X) : Prop :=
  (
              br (hpF (cutB x6.1 [36]) [36]) (
                need (headOkP 1 (List.drop 0 x6.4 ++ List.map (fun c ↦ [V.int IntKind.u8 (Int.ofNat c.toBitVec.toFin.1)]) (cutA x6.1 [36]))) (
                br (leN (x6.2 + (List.map (fun c ↦ [V.int IntKind.u8 (Int.ofNat c.toBitVec.toFin.1)]) (cutA x6.1 [36])).length + 1) (x6.2 + (List.map (fun c ↦ [V.int IntKind.u8 (Int.ofNat c.toBitVec.toFin.1)]) (cutA x6.1 [36])).length)) (
                  need (andB true (leI 1 (lenS (cutB x6.1 [36])))) (
                  ((heC.mk xs (Int.ofNat 1) : (heL I).C) = heC.mk xs 1) ∧ (
                  ∃ m'10 : Nat, (((m'10 : Nat) < m7)) ∧ (
                  I (heC.mk xs 1) (heX.mk s 0 0 []) (heX.mk (cutS (cutB x6.1 [36]) 1 (lenS (cutB x6.1 [36]))) (x6.2 + (List.map (fun c ↦ [V.int IntKind.u8 (Int.ofNat c.toBitVec.toFin.1)]) (cutA x6.1 [36])).length + 1) (x6.2 + (List.map (fun c ↦ [V.int IntKind.u8 (Int.ofNat c.toBitVec.toFin.1)]) (cutA x6.1 [36])).length) (List.take (0 + (x6.2 + (List.map (fun c ↦ [V.int IntKind.u8 (Int.ofNat c.toBitVec.toFin.1)]) (cutA x6.1 [36])).length)) (List.drop 0 x6.4 ++ List.map (fun c ↦ [V.int IntKind.u8 (Int.ofNat c.toBitVec.toFin.1)]) (cutA x6.1 [36])) ++ [[V.int IntKind.u8 36]] ++ List.drop (0 + (x6.2 + (List.map (fun c ↦ [V.int IntKind.u8 (Int.ofNat c.toBitVec.toFin.1)]) (cutA x6.1 [36])).length) + 1) (List.drop 0 x6.4 ++ List.map (fun c ↦ [V.int IntKind.u8 (Int.ofNat c.toBitVec.toFin.1)]) (cutA x6.1 [36])))) m'10)))) (
                  need (eqN (0 + (x6.2 + (List.map (fun c ↦ [V.int IntKind.u8 (Int.ofNat c.toBitVec.toFin.1)]) (cutA x6.1 [36])).length)) (List.drop 0 x6.4 ++ List.map (fun c ↦ [V.int IntKind.u8 (Int.ofNat c.toBitVec.toFin.1)]) (cutA x6.1 [36])).length) (
                  need (leN ((x6.2 + (List.map (fun c ↦ [V.int IntKind.u8 (Int.ofNat c.toBitVec.toFin.1)]) (cutA x6.1 [36])).length + 1) * 1) 140737488355328) (
                  need (andB true (leI 1 (lenS (cutB x6.1 [36])))) (
                  ((heC.mk xs (Int.ofNat 1) : (heL I).C) = heC.mk xs 1) ∧ (
                  ∃ m'10 : Nat, (((m'10 : Nat) < m7)) ∧ (
                  I (heC.mk xs 1) (heX.mk s 0 0 []) (heX.mk (cutS (cutB x6.1 [36]) 1 (lenS (cutB x6.1 [36]))) (x6.2 + (List.map (fun c ↦ [V.int IntKind.u8 (Int.ofNat c.toBitVec.toFin.1)]) (cutA x6.1 [36])).length + 1) (x6.2 + (List.map (fun c ↦ [V.int IntKind.u8 (Int.ofNat c.toBitVec.toFin.1)]) (cutA x6.1 [36])).length + 1) (List.drop 0 (List.drop 0 x6.4 ++ List.map (fun c ↦ [V.int IntKind.u8 (Int.ofNat c.toBitVec.toFin.1)]) (cutA x6.1 [36])) ++ [[V.int IntKind.u8 36]])) m'10)))))))) (
                br (eqI x8.1 0) (
                  need (headOkP 1 (List.drop 0 x6.4 ++ List.map (fun c ↦ [V.int IntKind.u8 (Int.ofNat c.toBitVec.toFin.1)]) (cutA x6.1 [36]))) (
                  br (leN (x6.2 + (List.map (fun c ↦ [V.int IntKind.u8 (Int.ofNat c.toBitVec.toFin.1)]) (cutA x6.1 [36])).length + 1) (x6.2 + (List.map (fun c ↦ [V.int IntKind.u8 (Int.ofNat c.toBitVec.toFin.1)]) (cutA x6.1 [36])).length)) (
                    ((heC.mk xs (Int.ofNat 1) : (heL I).C) = heC.mk xs 1) ∧ (
                    ∃ m'10 : Nat, (((m'10 : Nat) < m7)) ∧ (
                    I (heC.mk xs 1) (heX.mk s 0 0 []) (heX.mk (cutB x6.1 [36]) (x6.2 + (List.map (fun c ↦ [V.int IntKind.u8 (Int.ofNat c.toBitVec.toFin.1)]) (cutA x6.1 [36])).length + 1) (x6.2 + (List.map (fun c ↦ [V.int IntKind.u8 (Int.ofNat c.toBitVec.toFin.1)]) (cutA x6.1 [36])).length) (List.take (0 + (x6.2 + (List.map (fun c ↦ [V.int IntKind.u8 (Int.ofNat c.toBitVec.toFin.1)]) (cutA x6.1 [36])).length)) (List.drop 0 x6.4 ++ List.map (fun c ↦ [V.int IntKind.u8 (Int.ofNat c.toBitVec.toFin.1)]) (cutA x6.1 [36])) ++ [[V.int IntKind.u8 36]] ++ List.drop (0 + (x6.2 + (List.map (fun c ↦ [V.int IntKind.u8 (Int.ofNat c.toBitVec.toFin.1)]) (cutA x6.1 [36])).length) + 1) (List.drop 0 x6.4 ++ List.map (fun c ↦ [V.int IntKind.u8 (Int.ofNat c.toBitVec.toFin.1)]) (cutA x6.1 [36])))) m'10))) (
                    need (eqN (0 + (x6.2 + (List.map (fun c ↦ [V.int IntKind.u8 (Int.ofNat c.toBitVec.toFin.1)]) (cutA x6.1 [36])).length)) (List.drop 0 x6.4 ++ List.map (fun c ↦ [V.int IntKind.u8 (Int.ofNat c.toBitVec.toFin.1)]) (cutA x6.1 [36])).length) (
                    need (leN ((x6.2 + (List.map (fun c ↦ [V.int IntKind.u8 (Int.ofNat c.toBitVec.toFin.1)]) (cutA x6.1 [36])).length + 1) * 1) 140737488355328) (
                    ((heC.mk xs (Int.ofNat 1) : (heL I).C) = heC.mk xs 1) ∧ (
                    ∃ m'10 : Nat, (((m'10 : Nat) < m7)) ∧ (
                    I (heC.mk xs 1) (heX.mk s 0 0 []) (heX.mk (cutB x6.1 [36]) (x6.2 + (List.map (fun c ↦ [V.int IntKind.u8 (Int.ofNat c.toBitVec.toFin.1)]) (cutA x6.1 [36])).length + 1) (x6.2 + (List.map (fun c ↦ [V.int IntKind.u8 (Int.ofNat c.toBitVec.toFin.1)]) (cutA x6.1 [36])).length + 1) (List.drop 0 (List.drop 0 x6.4 ++ List.map (fun c ↦ [V.int IntKind.u8 (Int.ofNat c.toBitVec.toFin.1)]) (cutA x6.1 [36])) ++ [[V.int IntKind.u8 36]])) m'10))))))) (
                  need (andB (leI 0 x8.1) (leI x8.1 (lenS (cutB x6.1 [36])))) (
                  ∃ nx10 : Int, ∃ E11 : Ev, ((xs : List (List V)) = [[V.int IntKind.i64 1, V.int IntKind.i64 nx10, V.lst (varV E11)]]) ∧ (
                  (smallE E11) ∧ (
                  ((((cutS (cutB x6.1 [36]) 0 x8.1).length : Nat) ≤ 1000)) ∧ (
                  need (joinOk (strV (valF E11 (cutS (cutB x6.1 [36]) 0 x8.1))) [32]) (
                  need (headOkP 1 (List.map (fun c ↦ [V.int IntKind.u8 (Int.ofNat c.toBitVec.toFin.1)]) (joinV (strV (valF E11 (cutS (cutB x6.1 [36]) 0 x8.1))) [32]))) (
                  need (headOkP 1 (List.drop 0 x6.4 ++ List.map (fun c ↦ [V.int IntKind.u8 (Int.ofNat c.toBitVec.toFin.1)]) (cutA x6.1 [36]))) (
                  br (leN (x6.2 + (List.map (fun c ↦ [V.int IntKind.u8 (Int.ofNat c.toBitVec.toFin.1)]) (cutA x6.1 [36])).length + (List.map (fun c ↦ [V.int IntKind.u8 (Int.ofNat c.toBitVec.toFin.1)]) (joinV (strV (valF E11 (cutS (cutB x6.1 [36]) 0 x8.1))) [32])).length) (x6.2 + (List.map (fun c ↦ [V.int IntKind.u8 (Int.ofNat c.toBitVec.toFin.1)]) (cutA x6.1 [36])).length)) (
                    need (andB (leI 0 x8.1) (leI x8.1 (lenS (cutB x6.1 [36])))) (
                    ((heC.mk xs (Int.ofNat 1) : (heL I).C) = heC.mk xs 1) ∧ (
                    ∃ m'12 : Nat, (((m'12 : Nat) < m7)) ∧ (
                    I (heC.mk xs 1) (heX.mk s 0 0 []) (heX.mk (tpF (cutS (cutB x6.1 [36]) x8.1 (lenS (cutB x6.1 [36]))) [94]) (x6.2 + (List.map (fun c ↦ [V.int IntKind.u8 (Int.ofNat c.toBitVec.toFin.1)]) (cutA x6.1 [36])).length + (List.map (fun c ↦ [V.int IntKind.u8 (Int.ofNat c.toBitVec.toFin.1)]) (joinV (strV (valF E11 (cutS (cutB x6.1 [36]) 0 x8.1))) [32])).length) (x6.2 + (List.map (fun c ↦ [V.int IntKind.u8 (Int.ofNat c.toBitVec.toFin.1)]) (cutA x6.1 [36])).length) (List.take (0 + (x6.2 + (List.map (fun c ↦ [V.int IntKind.u8 (Int.ofNat c.toBitVec.toFin.1)]) (cutA x6.1 [36])).length)) (List.drop 0 x6.4 ++ List.map (fun c ↦ [V.int IntKind.u8 (Int.ofNat c.toBitVec.toFin.1)]) (cutA x6.1 [36])) ++ List.map (fun c ↦ [V.int IntKind.u8 (Int.ofNat c.toBitVec.toFin.1)]) (joinV (strV (valF E11 (cutS (cutB x6.1 [36]) 0 x8.1))) [32]) ++ List.drop (0 + (x6.2 + (List.map (fun c ↦ [V.int IntKind.u8 (Int.ofNat c.toBitVec.toFin.1)]) (cutA x6.1 [36])).length) + (List.map (fun c ↦ [V.int IntKind.u8 (Int.ofNat c.toBitVec.toFin.1)]) (joinV (strV (valF E11 (cutS (cutB x6.1 [36]) 0 x8.1))) [32])).length) (List.drop 0 x6.4 ++ List.map (fun c ↦ [V.int IntKind.u8 (Int.ofNat c.toBitVec.toFin.1)]) (cutA x6.1 [36])))) m'12)))) (
                    need (eqN (0 + (x6.2 + (List.map (fun c ↦ [V.int IntKind.u8 (Int.ofNat c.toBitVec.toFin.1)]) (cutA x6.1 [36])).length)) (List.drop 0 x6.4 ++ List.map (fun c ↦ [V.int IntKind.u8 (Int.ofNat c.toBitVec.toFin.1)]) (cutA x6.1 [36])).length) (
                    need (leN ((x6.2 + (List.map (fun c ↦ [V.int IntKind.u8 (Int.ofNat c.toBitVec.toFin.1)]) (cutA x6.1 [36])).length + (List.map (fun c ↦ [V.int IntKind.u8 (Int.ofNat c.toBitVec.toFin.1)]) (joinV (strV (valF E11 (cutS (cutB x6.1 [36]) 0 x8.1))) [32])).length) * 1) 140737488355328) (
                    need (andB (leI 0 x8.1) (leI x8.1 (lenS (cutB x6.1 [36])))) (
                    ((heC.mk xs (Int.ofNat 1) : (heL I).C) = heC.mk xs 1) ∧ (
                    ∃ m'12 : Nat, (((m'12 : Nat) < m7)) ∧ (
                    I (heC.mk xs 1) (heX.mk s 0 0 []) (heX.mk (tpF (cutS (cutB x6.1 [36]) x8.1 (lenS (cutB x6.1 [36]))) [94]) (x6.2 + (List.map (fun c ↦ [V.int IntKind.u8 (Int.ofNat c.toBitVec.toFin.1)]) (cutA x6.1 [36])).length + (List.map (fun c ↦ [V.int IntKind.u8 (Int.ofNat c.toBitVec.toFin.1)]) (joinV (strV (valF E11 (cutS (cutB x6.1 [36]) 0 x8.1))) [32])).length) (x6.2 + (List.map (fun c ↦ [V.int IntKind.u8 (Int.ofNat c.toBitVec.toFin.1)]) (cutA x6.1 [36])).length + (List.map (fun c ↦ [V.int IntKind.u8 (Int.ofNat c.toBitVec.toFin.1)]) (joinV (strV (valF E11 (cutS (cutB x6.1 [36]) 0 x8.1))) [32])).length) (List.drop 0 (List.drop 0 x6.4 ++ List.map (fun c ↦ [V.int IntKind.u8 (Int.ofNat c.toBitVec.toFin.1)]) (cutA x6.1 [36])) ++ List.map (fun c ↦ [V.int IntKind.u8 (Int.ofNat c.toBitVec.toFin.1)]) (joinV (strV (valF E11 (cutS (cutB x6.1 [36]) 0 x8.1))) [32]))) m'12))))))))))))))))
def he_vc_3 [MaxL] (xs : List (List V)) (s : List UInt8) (I : heC → heX → heX → Nat → Prop) (J : hnC → hnX → hnX → Nat → Prop) (K : V → List Bk → Prop) (x6 : (heL I).X) : Prop :=
  (
      br (ltI 65536 (Int.ofNat x6.2)) (
        K (V.tup [V.str [], V.int IntKind.i64 4]) []) (
        need (okBytes (List.take x6.2 x6.4)) (
        need (exactB (List.take x6.2 x6.4)) (
        need (leN x6.2 140737488355328) (
        K (V.tup [V.str (bytesOf (List.take x6.2 x6.4)), V.int IntKind.i64 0]) [])))))
theorem he_vc [MaxL] (xs : List (List V)) (s : List UInt8) (I : heC → heX → heX → Nat → Prop) (J : hnC → hnX → hnX → Nat → Prop) (K : V → List Bk → Prop) : vcF Tryz.prog cfgN (ctOf [(73, vlCon), (70, nmCon), (39, inlC Tryz.prog cfgN (ctOf []) 39), (68, inlC Tryz.prog cfgN (ctOf []) 68)]) (lpOf [(2, heL I), (7, hnL J)]) 22 [.lst xs, .int .i64 1, .str s] [] K = (
  (∃ m6 : Nat, (((m6 : Nat) < 18446744073709551616)) ∧ (
  I (heC.mk xs 1) (heX.mk s 0 0 []) (heX.mk s 0 0 []) m6)) ∧ (
  ∀ x6 : (heL I).X, ∀ m7 : Nat, (I (heC.mk xs 1) (heX.mk s 0 0 []) x6 m7) → (
  br (notB (eqS x6.1 [])) (
    br (leI (Int.ofNat x6.2) 65536) (
      need (decide (x6.s.length < 4294967281)) (
      need (headOkP 1 (List.map (fun c ↦ [V.int IntKind.u8 (Int.ofNat c.toBitVec.toFin.1)]) (cutA x6.1 [36]))) (
      need (headOkP 1 x6.4) (
      br (leN (x6.2 + (List.map (fun c ↦ [V.int IntKind.u8 (Int.ofNat c.toBitVec.toFin.1)]) (cutA x6.1 [36])).length) x6.3) (
        br (notB (cutC x6.1 [36])) (
          br (ltI 65536 (Int.ofNat (x6.2 + (List.map (fun c ↦ [V.int IntKind.u8 (Int.ofNat c.toBitVec.toFin.1)]) (cutA x6.1 [36])).length))) (
            K (V.tup [V.str [], V.int IntKind.i64 4]) []) (
            need (okBytes (List.take (x6.2 + (List.map (fun c ↦ [V.int IntKind.u8 (Int.ofNat c.toBitVec.toFin.1)]) (cutA x6.1 [36])).length) (List.take (0 + x6.2) x6.4 ++ List.map (fun c ↦ [V.int IntKind.u8 (Int.ofNat c.toBitVec.toFin.1)]) (cutA x6.1 [36]) ++ List.drop (0 + x6.2 + (List.map (fun c ↦ [V.int IntKind.u8 (Int.ofNat c.toBitVec.toFin.1)]) (cutA x6.1 [36])).length) x6.4))) (
            need (exactB (List.take (x6.2 + (List.map (fun c ↦ [V.int IntKind.u8 (Int.ofNat c.toBitVec.toFin.1)]) (cutA x6.1 [36])).length) (List.take (0 + x6.2) x6.4 ++ List.map (fun c ↦ [V.int IntKind.u8 (Int.ofNat c.toBitVec.toFin.1)]) (cutA x6.1 [36]) ++ List.drop (0 + x6.2 + (List.map (fun c ↦ [V.int IntKind.u8 (Int.ofNat c.toBitVec.toFin.1)]) (cutA x6.1 [36])).length) x6.4))) (
            need (leN (x6.2 + (List.map (fun c ↦ [V.int IntKind.u8 (Int.ofNat c.toBitVec.toFin.1)]) (cutA x6.1 [36])).length) 140737488355328) (
            K (V.tup [V.str (bytesOf (List.take (x6.2 + (List.map (fun c ↦ [V.int IntKind.u8 (Int.ofNat c.toBitVec.toFin.1)]) (cutA x6.1 [36])).length) (List.take (0 + x6.2) x6.4 ++ List.map (fun c ↦ [V.int IntKind.u8 (Int.ofNat c.toBitVec.toFin.1)]) (cutA x6.1 [36]) ++ List.drop (0 + x6.2 + (List.map (fun c ↦ [V.int IntKind.u8 (Int.ofNat c.toBitVec.toFin.1)]) (cutA x6.1 [36])).length) x6.4))), V.int IntKind.i64 0]) []))))) (
          (∃ m8 : Nat, (((m8 : Nat) < 18446744073709551616)) ∧ (
          J (hnC.mk xs (Int.ofNat 1) (cutB x6.1 [36]) (x6.2 + (List.map (fun c ↦ [V.int IntKind.u8 (Int.ofNat c.toBitVec.toFin.1)]) (cutA x6.1 [36])).length) x6.3 (List.take (0 + x6.2) x6.4 ++ List.map (fun c ↦ [V.int IntKind.u8 (Int.ofNat c.toBitVec.toFin.1)]) (cutA x6.1 [36]) ++ List.drop (0 + x6.2 + (List.map (fun c ↦ [V.int IntKind.u8 (Int.ofNat c.toBitVec.toFin.1)]) (cutA x6.1 [36])).length) x6.4)) (hnX.mk 0) (hnX.mk 0) m8)) ∧ (
          ∀ x8 : (hnL J).X, ∀ m9 : Nat, (J (hnC.mk xs (Int.ofNat 1) (cutB x6.1 [36]) (x6.2 + (List.map (fun c ↦ [V.int IntKind.u8 (Int.ofNat c.toBitVec.toFin.1)]) (cutA x6.1 [36])).length) x6.3 (List.take (0 + x6.2) x6.4 ++ List.map (fun c ↦ [V.int IntKind.u8 (Int.ofNat c.toBitVec.toFin.1)]) (cutA x6.1 [36]) ++ List.drop (0 + x6.2 + (List.map (fun c ↦ [V.int IntKind.u8 (Int.ofNat c.toBitVec.toFin.1)]) (cutA x6.1 [36])).length) x6.4)) (hnX.mk 0) x8 m9) → (
          br (ltI x8.1 (lenS (cutB x6.1 [36]))) (
            need (andB (leI 0 x8.1) (ltI x8.1 (lenS (cutB x6.1 [36])))) (
            br (nmB (atS (cutB x6.1 [36]) x8.1)) (
              ((hnC.mk xs (Int.ofNat 1) (cutB x6.1 [36]) (x6.2 + (List.map (fun c ↦ [V.int IntKind.u8 (Int.ofNat c.toBitVec.toFin.1)]) (cutA x6.1 [36])).length) x6.3 (List.take (0 + x6.2) x6.4 ++ List.map (fun c ↦ [V.int IntKind.u8 (Int.ofNat c.toBitVec.toFin.1)]) (cutA x6.1 [36]) ++ List.drop (0 + x6.2 + (List.map (fun c ↦ [V.int IntKind.u8 (Int.ofNat c.toBitVec.toFin.1)]) (cutA x6.1 [36])).length) x6.4) : (hnL J).C) = hnC.mk xs (Int.ofNat 1) (cutB x6.1 [36]) (x6.2 + (List.map (fun c ↦ [V.int IntKind.u8 (Int.ofNat c.toBitVec.toFin.1)]) (cutA x6.1 [36])).length) x6.3 (List.take (0 + x6.2) x6.4 ++ List.map (fun c ↦ [V.int IntKind.u8 (Int.ofNat c.toBitVec.toFin.1)]) (cutA x6.1 [36]) ++ List.drop (0 + x6.2 + (List.map (fun c ↦ [V.int IntKind.u8 (Int.ofNat c.toBitVec.toFin.1)]) (cutA x6.1 [36])).length) x6.4)) ∧ (
              ∃ m'10 : Nat, (((m'10 : Nat) < m9)) ∧ (
              J (hnC.mk xs (Int.ofNat 1) (cutB x6.1 [36]) (x6.2 + (List.map (fun c ↦ [V.int IntKind.u8 (Int.ofNat c.toBitVec.toFin.1)]) (cutA x6.1 [36])).length) x6.3 (List.take (0 + x6.2) x6.4 ++ List.map (fun c ↦ [V.int IntKind.u8 (Int.ofNat c.toBitVec.toFin.1)]) (cutA x6.1 [36]) ++ List.drop (0 + x6.2 + (List.map (fun c ↦ [V.int IntKind.u8 (Int.ofNat c.toBitVec.toFin.1)]) (cutA x6.1 [36])).length) x6.4)) (hnX.mk 0) (hnX.mk (addI IntKind.i64 x8.1 1)) m'10))) (he_vc_1 xs s I J K x6 m7 x8))) (he_vc_1 xs s I J K x6 m7 x8))))) (
        need (eqN (0 + x6.2) x6.4.length) (
        need (leN ((x6.2 + (List.map (fun c ↦ [V.int IntKind.u8 (Int.ofNat c.toBitVec.toFin.1)]) (cutA x6.1 [36])).length) * 1) 140737488355328) (
        br (notB (cutC x6.1 [36])) (
          br (ltI 65536 (Int.ofNat (x6.2 + (List.map (fun c ↦ [V.int IntKind.u8 (Int.ofNat c.toBitVec.toFin.1)]) (cutA x6.1 [36])).length))) (
            K (V.tup [V.str [], V.int IntKind.i64 4]) []) (
            need (okBytes (List.take (x6.2 + (List.map (fun c ↦ [V.int IntKind.u8 (Int.ofNat c.toBitVec.toFin.1)]) (cutA x6.1 [36])).length) (List.drop 0 x6.4 ++ List.map (fun c ↦ [V.int IntKind.u8 (Int.ofNat c.toBitVec.toFin.1)]) (cutA x6.1 [36])))) (
            need (exactB (List.take (x6.2 + (List.map (fun c ↦ [V.int IntKind.u8 (Int.ofNat c.toBitVec.toFin.1)]) (cutA x6.1 [36])).length) (List.drop 0 x6.4 ++ List.map (fun c ↦ [V.int IntKind.u8 (Int.ofNat c.toBitVec.toFin.1)]) (cutA x6.1 [36])))) (
            need (leN (x6.2 + (List.map (fun c ↦ [V.int IntKind.u8 (Int.ofNat c.toBitVec.toFin.1)]) (cutA x6.1 [36])).length) 140737488355328) (
            K (V.tup [V.str (bytesOf (List.take (x6.2 + (List.map (fun c ↦ [V.int IntKind.u8 (Int.ofNat c.toBitVec.toFin.1)]) (cutA x6.1 [36])).length) (List.drop 0 x6.4 ++ List.map (fun c ↦ [V.int IntKind.u8 (Int.ofNat c.toBitVec.toFin.1)]) (cutA x6.1 [36])))), V.int IntKind.i64 0]) []))))) (
          (∃ m8 : Nat, (((m8 : Nat) < 18446744073709551616)) ∧ (
          J (hnC.mk xs (Int.ofNat 1) (cutB x6.1 [36]) (x6.2 + (List.map (fun c ↦ [V.int IntKind.u8 (Int.ofNat c.toBitVec.toFin.1)]) (cutA x6.1 [36])).length) (x6.2 + (List.map (fun c ↦ [V.int IntKind.u8 (Int.ofNat c.toBitVec.toFin.1)]) (cutA x6.1 [36])).length) (List.drop 0 x6.4 ++ List.map (fun c ↦ [V.int IntKind.u8 (Int.ofNat c.toBitVec.toFin.1)]) (cutA x6.1 [36]))) (hnX.mk 0) (hnX.mk 0) m8)) ∧ (
          ∀ x8 : (hnL J).X, ∀ m9 : Nat, (J (hnC.mk xs (Int.ofNat 1) (cutB x6.1 [36]) (x6.2 + (List.map (fun c ↦ [V.int IntKind.u8 (Int.ofNat c.toBitVec.toFin.1)]) (cutA x6.1 [36])).length) (x6.2 + (List.map (fun c ↦ [V.int IntKind.u8 (Int.ofNat c.toBitVec.toFin.1)]) (cutA x6.1 [36])).length) (List.drop 0 x6.4 ++ List.map (fun c ↦ [V.int IntKind.u8 (Int.ofNat c.toBitVec.toFin.1)]) (cutA x6.1 [36]))) (hnX.mk 0) x8 m9) → (
          br (ltI x8.1 (lenS (cutB x6.1 [36]))) (
            need (andB (leI 0 x8.1) (ltI x8.1 (lenS (cutB x6.1 [36])))) (
            br (nmB (atS (cutB x6.1 [36]) x8.1)) (
              ((hnC.mk xs (Int.ofNat 1) (cutB x6.1 [36]) (x6.2 + (List.map (fun c ↦ [V.int IntKind.u8 (Int.ofNat c.toBitVec.toFin.1)]) (cutA x6.1 [36])).length) (x6.2 + (List.map (fun c ↦ [V.int IntKind.u8 (Int.ofNat c.toBitVec.toFin.1)]) (cutA x6.1 [36])).length) (List.drop 0 x6.4 ++ List.map (fun c ↦ [V.int IntKind.u8 (Int.ofNat c.toBitVec.toFin.1)]) (cutA x6.1 [36])) : (hnL J).C) = hnC.mk xs (Int.ofNat 1) (cutB x6.1 [36]) (x6.2 + (List.map (fun c ↦ [V.int IntKind.u8 (Int.ofNat c.toBitVec.toFin.1)]) (cutA x6.1 [36])).length) (x6.2 + (List.map (fun c ↦ [V.int IntKind.u8 (Int.ofNat c.toBitVec.toFin.1)]) (cutA x6.1 [36])).length) (List.drop 0 x6.4 ++ List.map (fun c ↦ [V.int IntKind.u8 (Int.ofNat c.toBitVec.toFin.1)]) (cutA x6.1 [36]))) ∧ (
              ∃ m'10 : Nat, (((m'10 : Nat) < m9)) ∧ (
              J (hnC.mk xs (Int.ofNat 1) (cutB x6.1 [36]) (x6.2 + (List.map (fun c ↦ [V.int IntKind.u8 (Int.ofNat c.toBitVec.toFin.1)]) (cutA x6.1 [36])).length) (x6.2 + (List.map (fun c ↦ [V.int IntKind.u8 (Int.ofNat c.toBitVec.toFin.1)]) (cutA x6.1 [36])).length) (List.drop 0 x6.4 ++ List.map (fun c ↦ [V.int IntKind.u8 (Int.ofNat c.toBitVec.toFin.1)]) (cutA x6.1 [36]))) (hnX.mk 0) (hnX.mk (addI IntKind.i64 x8.1 1)) m'10))) (he_vc_2 xs s I J K x6 m7 x8))) (he_vc_2 xs s I J K x6 m7 x8))))))))))) (he_vc_3 xs s I J K x6)) (he_vc_3 xs s I J K x6)))) := by kernel_rfl

end Go.Proofs.YthhpdnlfhofanaaGreatDoor
namespace Go.Proofs.YthhpdnlfhofanaaGreatDoor
open Go.RowKit
set_option maxRecDepth 100000
set_option linter.unusedVariables false
set_option linter.unusedSimpArgs false
theorem quoF_len (l : List (List UInt8)) : (quoF l).length = l.length := by simp [quoF]
theorem texts_quo (l : List (List UInt8)) : textsF (quoF l) = l := by simp [textsF, quoF, Function.comp_def]
theorem lenS_le {l : List (List UInt8)} {a b : Nat} (h : longL l a) (hab : a ≤ b) : longL l b := fun s hs => Nat.le_trans (h s hs) hab
theorem digs_le (b : Nat) : ∀ k u, (digs b k u).length ≤ k
  | 0, u => by simp [digs]
  | k + 1, u => by
    unfold digs
    simp only [Bool.cond_eq_ite]
    split
    · simp
    · simp
      exact digs_le b k _
theorem w_con [MaxL] {n : Nat} (hn : 8 ≤ n) : ConOk (evalF Tryz.prog cfgN n) 19 wdCon := by
  intro vs bs K h
  unfold wdCon at h
  split at h
  · rename_i xs k nm
    obtain ⟨nx, E, rfl, hE, hnm, hlong, hlen, hk, hK⟩ := h
    have wo : ∀ m, 7 ≤ m → ConOk (evalF Tryz.prog cfgN m) 64 wo1 := fun m hm => inl_ok (by omega) fun k hk => ctOf_ok (ctOf_cons (vl_con (by omega)) (ctOf_cons (qu_con (by omega)) (ctOf_nil _)))
    rcases hk with rfl | rfl
    · have hw : wdF 2 E nm = (valF E nm) := rfl
      rw [hw] at hK
      have hl1 : (valF E nm).length ≤ 300 := hlen
      have hl2 : longL (valF E nm) 1000 := lenS_le hlong (by omega)
      refine run_of (lp := lpOf [(6, wdL fun _ _ x m => ∃ k : Nat, x = ⟨strV (marksL ((quoF (valF E nm)).take k)), k, k, (k : Int)⟩ ∧ k + m = (quoF (valF E nm)).length)]) (by omega) (ct := ctOf [(64, wo1), (65, teCon)])
        (fun k hk => ctOf_ok (ctOf_cons (wo k (by omega)) (ctOf_cons (te_con (by omega)) (ctOf_nil _)))) ?_
      rw [w2_vc]
      refine ⟨nx, E, rfl, hE, hnm, _, rfl, hl1, hl2, ?_⟩
      generalize (valF E nm) = l at hK hl1 hl2
      have hq := quoF_len l
      simp only [valV_lenL]
      refine ⟨⟨(quoF l).length, by omega, 0, rfl, by omega⟩, ?_⟩
      rintro _ m ⟨k, rfl, hk⟩
      dsimp only
      have hql : (marksL ((quoF l).take k)).length = k := by unfold marksL; simp; omega
      rw [br_iff]
      refine ⟨fun hlt => ?_, fun hge => ?_⟩
      · have hlt : k < (quoF l).length := by simp only [br_iff, need_iff, andB_t, andB_f, orB_t, orB_f, notB_t, notB_f, leI_t, leI_f, ltI_t, ltI_f, eqI_t, eqI_f, leN_t, leN_f, eqN_t, eqN_f, eqS_t, eqS_f, eqB_t, eqB_f, catOk_t, leC_t] at hlt; omega
        generalize hql2 : quoF l = q at *
        have ga : q[k]? = some q[k] := List.getElem?_eq_getElem hlt
        generalize q[k] = a at ga
        have ra := valV_row ga
        have ka : okRow (valV q) (Int.toNat (k : Int)) 2 = true := by simpa using valV_ok (l := q) (i := k) hlt
        have na : andB (leI 0 (k : Int)) (ltI (k : Int) (q.length : Int)) = true := by simp only [br_iff, need_iff, andB_t, andB_f, orB_t, orB_f, notB_t, notB_f, leI_t, leI_f, ltI_t, ltI_f, eqI_t, eqI_f, leN_t, leN_f, eqN_t, eqN_f, eqS_t, eqS_f, eqB_t, eqB_f, catOk_t, leC_t]; omega
        rw [need_iff, need_iff]
        refine ⟨na, ka, ?_⟩
        try rw [ra]
        repeat apply Exists.intro
        refine ⟨rfl, ?_⟩
        rw [need_iff]; refine ⟨strV_head _, ?_⟩
        rw [br_iff]; refine ⟨fun q => by simp only [br_iff, need_iff, andB_t, andB_f, orB_t, orB_f, notB_t, notB_f, leI_t, leI_f, ltI_t, ltI_f, eqI_t, eqI_f, leN_t, leN_f, eqN_t, eqN_f, eqS_t, eqS_f, eqB_t, eqB_f, catOk_t, leC_t] at q; omega, fun _ => ?_⟩
        rw [need_iff]; refine ⟨by simp only [br_iff, need_iff, andB_t, andB_f, orB_t, orB_f, notB_t, notB_f, leI_t, leI_f, ltI_t, ltI_f, eqI_t, eqI_f, leN_t, leN_f, eqN_t, eqN_f, eqS_t, eqS_f, eqB_t, eqB_f, catOk_t, leC_t, strV_len, hql]; omega, ?_⟩
        rw [need_iff]; refine ⟨by simp only [br_iff, need_iff, andB_t, andB_f, orB_t, orB_f, notB_t, notB_f, leI_t, leI_f, ltI_t, ltI_f, eqI_t, eqI_f, leN_t, leN_f, eqN_t, eqN_f, eqS_t, eqS_f, eqB_t, eqB_f, catOk_t, leC_t]; omega, by trivial, m - 1, by omega, k + 1, ?_, by omega⟩
        rw [addI_i64 (by omega) (by omega)]
        have e : marksL (q.take (k + 1)) = marksL (q.take k) ++ [a.marks] := by
          obtain ⟨g1, rfl⟩ := List.getElem?_eq_some_iff.1 ga
          unfold marksL; rw [List.take_succ_eq_append_getElem g1, List.map_append]; rfl
        rw [e, ← strV_app, List.drop_zero]
        rfl
      · have : k = (quoF l).length := by simp only [br_iff, need_iff, andB_t, andB_f, orB_t, orB_f, notB_t, notB_f, leI_t, leI_f, ltI_t, ltI_f, eqI_t, eqI_f, leN_t, leN_f, eqN_t, eqN_f, eqS_t, eqS_f, eqB_t, eqB_f, catOk_t, leC_t] at hge; omega
        subst this
        rw [List.take_length] at hql ⊢
        refine ⟨quoF l, rfl, by omega, ?_⟩
        rw [List.drop_zero, List.take_of_length_le (by rw [strV_len]; omega), texts_quo]
        exact hK
    · have hw : wdF 3 E nm = [textN 10 ((valF E nm).length : Int)] := rfl
      rw [hw] at hK
      have hl1 : [textN 10 ((valF E nm).length : Int)].length ≤ 300 := by simp
      have hl2 : longL [textN 10 ((valF E nm).length : Int)] 1000 := fun s hs => by
        obtain rfl : s = _ := by simpa using hs
        exact Nat.le_trans (digs_le 10 64 _) (by omega)
      refine run_of (lp := lpOf [(6, wdL fun _ _ x m => ∃ k : Nat, x = ⟨strV (marksL ((quoF [textN 10 ((valF E nm).length : Int)]).take k)), k, k, (k : Int)⟩ ∧ k + m = (quoF [textN 10 ((valF E nm).length : Int)]).length)]) (by omega) (ct := ctOf [(64, wo1), (65, teCon)])
        (fun k hk => ctOf_ok (ctOf_cons (wo k (by omega)) (ctOf_cons (te_con (by omega)) (ctOf_nil _)))) ?_
      rw [w3_vc]
      refine ⟨nx, E, rfl, hE, hnm, ?_⟩
      rw [need_iff]; refine ⟨by simp only [strV_lenL, inI64, Bool.and_eq_true, decide_eq_true_eq]; omega, [textN 10 ((valF E nm).length : Int)], by rw [strV_lenL]; rfl, hl1, hl2, ?_⟩
      generalize [textN 10 ((valF E nm).length : Int)] = l at hK hl1 hl2
      have hq := quoF_len l
      simp only [valV_lenL]
      refine ⟨⟨(quoF l).length, by omega, 0, rfl, by omega⟩, ?_⟩
      rintro _ m ⟨k, rfl, hk⟩
      dsimp only
      have hql : (marksL ((quoF l).take k)).length = k := by unfold marksL; simp; omega
      rw [br_iff]
      refine ⟨fun hlt => ?_, fun hge => ?_⟩
      · have hlt : k < (quoF l).length := by simp only [br_iff, need_iff, andB_t, andB_f, orB_t, orB_f, notB_t, notB_f, leI_t, leI_f, ltI_t, ltI_f, eqI_t, eqI_f, leN_t, leN_f, eqN_t, eqN_f, eqS_t, eqS_f, eqB_t, eqB_f, catOk_t, leC_t] at hlt; omega
        generalize hql2 : quoF l = q at *
        have ga : q[k]? = some q[k] := List.getElem?_eq_getElem hlt
        generalize q[k] = a at ga
        have ra := valV_row ga
        have ka : okRow (valV q) (Int.toNat (k : Int)) 2 = true := by simpa using valV_ok (l := q) (i := k) hlt
        have na : andB (leI 0 (k : Int)) (ltI (k : Int) (q.length : Int)) = true := by simp only [br_iff, need_iff, andB_t, andB_f, orB_t, orB_f, notB_t, notB_f, leI_t, leI_f, ltI_t, ltI_f, eqI_t, eqI_f, leN_t, leN_f, eqN_t, eqN_f, eqS_t, eqS_f, eqB_t, eqB_f, catOk_t, leC_t]; omega
        rw [need_iff, need_iff]
        refine ⟨na, ka, ?_⟩
        try rw [ra]
        repeat apply Exists.intro
        refine ⟨rfl, ?_⟩
        rw [need_iff]; refine ⟨strV_head _, ?_⟩
        rw [br_iff]; refine ⟨fun q => by simp only [br_iff, need_iff, andB_t, andB_f, orB_t, orB_f, notB_t, notB_f, leI_t, leI_f, ltI_t, ltI_f, eqI_t, eqI_f, leN_t, leN_f, eqN_t, eqN_f, eqS_t, eqS_f, eqB_t, eqB_f, catOk_t, leC_t] at q; omega, fun _ => ?_⟩
        rw [need_iff]; refine ⟨by simp only [br_iff, need_iff, andB_t, andB_f, orB_t, orB_f, notB_t, notB_f, leI_t, leI_f, ltI_t, ltI_f, eqI_t, eqI_f, leN_t, leN_f, eqN_t, eqN_f, eqS_t, eqS_f, eqB_t, eqB_f, catOk_t, leC_t, strV_len, hql]; omega, ?_⟩
        rw [need_iff]; refine ⟨by simp only [br_iff, need_iff, andB_t, andB_f, orB_t, orB_f, notB_t, notB_f, leI_t, leI_f, ltI_t, ltI_f, eqI_t, eqI_f, leN_t, leN_f, eqN_t, eqN_f, eqS_t, eqS_f, eqB_t, eqB_f, catOk_t, leC_t]; omega, by trivial, m - 1, by omega, k + 1, ?_, by omega⟩
        rw [addI_i64 (by omega) (by omega)]
        have e : marksL (q.take (k + 1)) = marksL (q.take k) ++ [a.marks] := by
          obtain ⟨g1, rfl⟩ := List.getElem?_eq_some_iff.1 ga
          unfold marksL; rw [List.take_succ_eq_append_getElem g1, List.map_append]; rfl
        rw [e, ← strV_app, List.drop_zero]
        rfl
      · have : k = (quoF l).length := by simp only [br_iff, need_iff, andB_t, andB_f, orB_t, orB_f, notB_t, notB_f, leI_t, leI_f, ltI_t, ltI_f, eqI_t, eqI_f, leN_t, leN_f, eqN_t, eqN_f, eqS_t, eqS_f, eqB_t, eqB_f, catOk_t, leC_t] at hge; omega
        subst this
        rw [List.take_length] at hql ⊢
        refine ⟨quoF l, rfl, by omega, ?_⟩
        rw [List.drop_zero, List.take_of_length_le (by rw [strV_len]; omega), texts_quo]
        exact hK
  · exact h.elim
end Go.Proofs.YthhpdnlfhofanaaGreatDoor
namespace Go.Proofs.YthhpdnlfhofanaaGreatDoor
open Go.RowKit
set_option maxRecDepth 100000
set_option linter.unusedVariables false
set_option linter.unusedSimpArgs false
theorem scanF_le : ∀ r : List UInt8, scanF r ≤ r.length
  | [] => Nat.le_refl _
  | c :: r => by
    have := scanF_le r
    unfold scanF
    split
    · simp only [List.length_cons]; omega
    · omega
theorem scanF_stop : ∀ (r : List UInt8) (j : Nat), (r.take j).all (fun c => nmB (c.toNat : Int)) = true → (j = r.length ∨ ∃ c, r[j]? = some c ∧ nmB (c.toNat : Int) = false) → scanF r = j
  | [], j, h, hj => by
    rcases hj with rfl | ⟨c, hc, _⟩
    · rfl
    · simp at hc
  | c :: r, 0, h, hj => by
    rcases hj with hj | ⟨d, hd, hn⟩
    · simp at hj
    · have : c = d := by simpa using hd
      subst this
      unfold scanF
      rw [if_neg (by rw [hn]; decide)]
  | c :: r, j + 1, h, hj => by
    rw [List.take_succ_cons, List.all_cons, Bool.and_eq_true] at h
    have ih := scanF_stop r j h.2 (by
      rcases hj with hj | ⟨d, hd, hn⟩
      · exact .inl (by simpa using hj)
      · exact .inr ⟨d, by simpa using hd, hn⟩)
    unfold scanF
    rw [if_pos h.1, ih]
theorem cutB_lt {s : List UInt8} (h : cutC s [36] = true) : (cutB s [36]).length < s.length := by
  unfold cutC at h
  unfold cutB
  unfold Lib.cut at *
  split at h
  · rename_i hi
    rw [if_pos hi]
    cases s with
    | nil => simp [Lib.index] at hi
    | cons c t => simp; omega
  · cases h
theorem cutA_le (s : List UInt8) : (cutA s [36]).length ≤ s.length := by
  unfold cutA Lib.cut
  split
  · simp; omega
  · simp
theorem tpF_le (s t : List UInt8) : (tpF s t).length ≤ s.length := by
  unfold tpF Lib.trimPrefix
  split
  · simp
  · exact Nat.le_refl _
theorem valF_long {E : Ev} (hE : smallE E) (nm : List UInt8) : longL (valF E nm) 100 ∧ (valF E nm).length ≤ 300 := by
  have g : ∀ q, longL (getF E q).1 100 := fun q => by
    cases E with
    | none => intro s hs; simp [getF] at hs
    | some p =>
      obtain ⟨n, l⟩ := p
      have := (hE n l rfl).2
      unfold getF
      simp only
      split
      · exact this
      · intro s hs; simp at hs
  unfold valF
  split
  · split
    · exact ⟨fun s hs => by simp at hs, by simp⟩
    · refine ⟨fun s hs => g _ s (List.mem_of_mem_drop (List.mem_of_mem_take hs)), ?_⟩
      have := getF_small hE [42]
      simp only [List.length_take, List.length_drop]
      omega
  · exact ⟨g nm, getF_small hE nm⟩
theorem cutS_from (r : List UInt8) (j : Nat) : cutS r (j : Int) (lenS r) = r.drop j := by
  unfold cutS lenS
  simp only [Int.toNat_natCast]
  exact List.take_of_length_le (by simp)
theorem cutS_to (r : List UInt8) (j : Nat) : cutS r 0 (j : Int) = r.take j := by
  unfold cutS
  simp
theorem drop_rowsB (b : List UInt8) : List.drop b.length (rowsB b) = [] := List.drop_of_length_le (by rw [rowsB_len]; omega)
def heI (E : Ev) (s : List UInt8) (x : heX) (m : Nat) : Prop := ∃ (b s' : List UInt8), x = ⟨s', b.length, b.length, rowsB b⟩ ∧ s'.length < m ∧ s'.length ≤ 1000 ∧ b.length ≤ 200000 ∧ hereF E m s' b = hereF E (s.length + 1) s []
def hnI (c : hnC) (x : hnX) (m : Nat) : Prop := ∃ j : Nat, x = ⟨(j : Int)⟩ ∧ j + m = c.r.length ∧ (c.r.take j).all (fun c => nmB (c.toNat : Int)) = true
theorem he2 [MaxL] {nx : Int} {E : Ev} (hE : smallE E) {s s' b : List UInt8} {k j : Nat} {J : hnC → hnX → hnX → Nat → Prop} {K : V → List Bk → Prop} (hs : s' ≠ []) (hb : b.length ≤ 65536) (hl : s'.length < k + 1) (hl2 : s'.length ≤ 1000) (hc : cutC s' [36] = true)
    (hj : scanF (cutB s' [36]) = j) (hF : hereF E (k + 1) s' b = hereF E (s.length + 1) s []) : he_vc_2 (envV nx E) s (fun _ _ x m => heI E s x m) J K ⟨s', b.length, b.length, rowsB b⟩ (k + 1) ⟨(j : Int)⟩ := by
  have hlt := cutB_lt hc
  have hA := cutA_le s'
  have hjl := scanF_le (cutB s' [36])
  rw [hj] at hjl
  unfold hereF at hF
  rw [if_neg (by simp [hs]; omega), if_neg (by rw [hc]; decide)] at hF
  unfold he_vc_2
  simp only [rowsB_fold, rowsB_len, List.drop_zero, rowsB_app]
  generalize hr : cutB s' [36] = r at *
  generalize ha : cutA s' [36] = a at *
  have e36 : [[V.int IntKind.u8 36]] = rowsB [36] := rfl
  have lena : ∀ c : List UInt8, (b ++ a ++ c).length = b.length + a.length + c.length := fun c => by simp only [List.length_append]
  rw [br_iff]; refine ⟨fun g => ?_, fun g => ?_⟩
  · rw [if_pos g] at hF
    have hr0 : 1 ≤ r.length := by
      cases r with
      | nil => simp [hpF, Lib.hasPrefix] at g
      | cons c t => simp
    rw [need_iff]; refine ⟨rowsB_head _, ?_⟩
    rw [br_iff]; refine ⟨fun q => by simp only [br_iff, need_iff, andB_t, andB_f, orB_t, orB_f, notB_t, notB_f, leI_t, leI_f, ltI_t, ltI_f, eqI_t, eqI_f, leN_t, leN_f, eqN_t, eqN_f, eqS_t, eqS_f, eqB_t, eqB_f, catOk_t, leC_t] at q; omega, fun _ => ?_⟩
    rw [need_iff]; refine ⟨by simp only [br_iff, need_iff, andB_t, andB_f, orB_t, orB_f, notB_t, notB_f, leI_t, leI_f, ltI_t, ltI_f, eqI_t, eqI_f, leN_t, leN_f, eqN_t, eqN_f, eqS_t, eqS_f, eqB_t, eqB_f, catOk_t, leC_t, rowsB_len, List.length_append]; omega, ?_⟩
    rw [need_iff]; refine ⟨by simp only [br_iff, need_iff, andB_t, andB_f, orB_t, orB_f, notB_t, notB_f, leI_t, leI_f, ltI_t, ltI_f, eqI_t, eqI_f, leN_t, leN_f, eqN_t, eqN_f, eqS_t, eqS_f, eqB_t, eqB_f, catOk_t, leC_t]; omega, ?_⟩
    rw [need_iff]; refine ⟨by simp only [andB_tt, br_iff, need_iff, andB_t, andB_f, orB_t, orB_f, notB_t, notB_f, leI_t, leI_f, ltI_t, ltI_f, eqI_t, eqI_f, leN_t, leN_f, eqN_t, eqN_f, eqS_t, eqS_f, eqB_t, eqB_f, catOk_t, leC_t, lenS]; omega, by trivial, k, by omega, b ++ a ++ [36], r.drop 1, ?_, by simp only [List.length_drop]; omega, by simp only [List.length_drop]; omega, by rw [lena]; simp; omega, hF⟩
    rw [e36, rowsB_app, lena, show (1 : Int) = ((1 : Nat) : Int) from rfl, cutS_from]
    rfl
  rw [if_neg (by rw [g]; decide)] at hF
  rw [br_iff]; refine ⟨fun g2 => ?_, fun g2 => ?_⟩
  · have g2 : j = 0 := by simp only [br_iff, need_iff, andB_t, andB_f, orB_t, orB_f, notB_t, notB_f, leI_t, leI_f, ltI_t, ltI_f, eqI_t, eqI_f, leN_t, leN_f, eqN_t, eqN_f, eqS_t, eqS_f, eqB_t, eqB_f, catOk_t, leC_t] at g2; omega
    rw [hj, if_pos g2] at hF
    rw [need_iff]; refine ⟨rowsB_head _, ?_⟩
    rw [br_iff]; refine ⟨fun q => by simp only [br_iff, need_iff, andB_t, andB_f, orB_t, orB_f, notB_t, notB_f, leI_t, leI_f, ltI_t, ltI_f, eqI_t, eqI_f, leN_t, leN_f, eqN_t, eqN_f, eqS_t, eqS_f, eqB_t, eqB_f, catOk_t, leC_t] at q; omega, fun _ => ?_⟩
    rw [need_iff]; refine ⟨by simp only [br_iff, need_iff, andB_t, andB_f, orB_t, orB_f, notB_t, notB_f, leI_t, leI_f, ltI_t, ltI_f, eqI_t, eqI_f, leN_t, leN_f, eqN_t, eqN_f, eqS_t, eqS_f, eqB_t, eqB_f, catOk_t, leC_t, rowsB_len, List.length_append]; omega, ?_⟩
    rw [need_iff]; refine ⟨by simp only [br_iff, need_iff, andB_t, andB_f, orB_t, orB_f, notB_t, notB_f, leI_t, leI_f, ltI_t, ltI_f, eqI_t, eqI_f, leN_t, leN_f, eqN_t, eqN_f, eqS_t, eqS_f, eqB_t, eqB_f, catOk_t, leC_t]; omega, by trivial, k, by omega, b ++ a ++ [36], r, ?_, by omega, by omega, by rw [lena]; simp; omega, hF⟩
    rw [e36, rowsB_app, lena]
    rfl
  · have g2 : ¬ j = 0 := by simp only [br_iff, need_iff, andB_t, andB_f, orB_t, orB_f, notB_t, notB_f, leI_t, leI_f, ltI_t, ltI_f, eqI_t, eqI_f, leN_t, leN_f, eqN_t, eqN_f, eqS_t, eqS_f, eqB_t, eqB_f, catOk_t, leC_t] at g2; omega
    rw [hj, if_neg g2] at hF
    have hv := valF_long hE (r.take j)
    have hjn := join_le hv.1 (sep := [32]) rfl
    have hjn2 : (valF E (r.take j)).length * (100 + 1) ≤ 300 * 101 := Nat.mul_le_mul hv.2 (by omega)
    have hn3 : andB (leI 0 (j : Int)) (leI (j : Int) (lenS r)) = true := by simp only [br_iff, need_iff, andB_t, andB_f, orB_t, orB_f, notB_t, notB_f, leI_t, leI_f, ltI_t, ltI_f, eqI_t, eqI_f, leN_t, leN_f, eqN_t, eqN_f, eqS_t, eqS_f, eqB_t, eqB_f, catOk_t, leC_t, lenS]; omega
    rw [hn3, need_tt]
    refine ⟨nx, E, rfl, hE, by rw [cutS_to]; simp only [List.length_take]; omega, ?_⟩
    rw [cutS_to, cutS_from]
    simp only [joinV_strV, need_tt]
    have htp := tpF_le (r.drop j) [94]
    rw [List.length_drop] at htp
    rw [need_iff]; refine ⟨joinOk_strV hv.1 rfl hv.2 (by omega), ?_⟩
    generalize hw : Lib.join (valF E (r.take j)) [32] = w at *
    rw [need_iff]; refine ⟨rowsB_head _, ?_⟩
    rw [need_iff]; refine ⟨rowsB_head _, ?_⟩
    rw [br_iff]; refine ⟨fun q => ⟨by trivial, k, by omega, b ++ a ++ w, tpF (r.drop j) [94], ?_, by omega, by omega, by rw [lena]; omega, hF⟩, fun _ => ?_⟩
    · have q : w.length = 0 := by simp only [br_iff, need_iff, andB_t, andB_f, orB_t, orB_f, notB_t, notB_f, leI_t, leI_f, ltI_t, ltI_f, eqI_t, eqI_f, leN_t, leN_f, eqN_t, eqN_f, eqS_t, eqS_f, eqB_t, eqB_f, catOk_t, leC_t] at q; omega
      obtain rfl := List.length_eq_zero_iff.1 q
      have e1 : b.length + a.length = (b ++ a).length := by simp
      simp only [show rowsB [] = [] from rfl, List.append_nil, List.length_nil, Nat.add_zero, Nat.zero_add, e1, take_rowsB, drop_rowsB]
    · rw [need_iff]; refine ⟨by simp only [br_iff, need_iff, andB_t, andB_f, orB_t, orB_f, notB_t, notB_f, leI_t, leI_f, ltI_t, ltI_f, eqI_t, eqI_f, leN_t, leN_f, eqN_t, eqN_f, eqS_t, eqS_f, eqB_t, eqB_f, catOk_t, leC_t, rowsB_len, List.length_append]; omega, ?_⟩
      rw [need_iff]; refine ⟨by simp only [br_iff, need_iff, andB_t, andB_f, orB_t, orB_f, notB_t, notB_f, leI_t, leI_f, ltI_t, ltI_f, eqI_t, eqI_f, leN_t, leN_f, eqN_t, eqN_f, eqS_t, eqS_f, eqB_t, eqB_f, catOk_t, leC_t]; omega, by trivial, k, by omega, b ++ a ++ w, tpF (r.drop j) [94], ?_, by omega, by omega, by rw [lena]; omega, hF⟩
      rw [lena]
end Go.Proofs.YthhpdnlfhofanaaGreatDoor
namespace Go.Proofs.YthhpdnlfhofanaaGreatDoor
open Go.RowKit
set_option maxRecDepth 100000
set_option linter.unusedVariables false
set_option linter.unusedSimpArgs false
theorem he12 [MaxL] {xs : List (List V)} {s s' b : List UInt8} {m : Nat} {x8 : hnX} {I : heC → heX → heX → Nat → Prop} {J : hnC → hnX → hnX → Nat → Prop} {K : V → List Bk → Prop} (hA : cutA s' [36] = [])
    (h : he_vc_2 xs s I J K ⟨s', b.length, b.length, rowsB b⟩ m x8) : he_vc_1 xs s I J K ⟨s', b.length, b.length, rowsB b⟩ m x8 := by
  unfold he_vc_1
  unfold he_vc_2 at h
  simp only [hA, rowsB_fold, show rowsB [] = [] from rfl, List.append_nil, List.length_nil, Nat.add_zero, Nat.zero_add, take_rowsB, drop_rowsB, List.drop_zero] at h ⊢
  exact h
theorem ends_ok {K : V → List Bk → Prop} {r : List UInt8 × Int} {b : List UInt8} (hb : b.length ≤ 1000000) (hr : r = hereEnd b) (hK : K (.tup [.str r.1, .int .i64 r.2]) []) :
    br (ltI 65536 (Int.ofNat b.length)) (K (.tup [.str [], .int .i64 4]) []) (need (okBytes (rowsB b)) (need (exactB (rowsB b)) (need (leN b.length 140737488355328) (K (.tup [.str (bytesOf (rowsB b)), .int .i64 0]) [])))) := by
  subst hr
  unfold hereEnd at hK
  rw [br_iff]; refine ⟨fun g => ?_, fun g => ?_⟩
  · rw [if_pos (by simp only [br_iff, need_iff, andB_t, andB_f, orB_t, orB_f, notB_t, notB_f, leI_t, leI_f, ltI_t, ltI_f, eqI_t, eqI_f, leN_t, leN_f, eqN_t, eqN_f, eqS_t, eqS_f, eqB_t, eqB_f, catOk_t, leC_t, Int.ofNat_eq_natCast] at g; omega)] at hK
    exact hK
  · rw [if_neg (by simp only [br_iff, need_iff, andB_t, andB_f, orB_t, orB_f, notB_t, notB_f, leI_t, leI_f, ltI_t, ltI_f, eqI_t, eqI_f, leN_t, leN_f, eqN_t, eqN_f, eqS_t, eqS_f, eqB_t, eqB_f, catOk_t, leC_t, Int.ofNat_eq_natCast] at g; omega)] at hK
    rw [need_iff]; refine ⟨okBytes_rowsB _, ?_⟩
    rw [need_iff]; refine ⟨exactB_rowsB _, ?_⟩
    rw [need_iff]; refine ⟨by simp only [br_iff, need_iff, andB_t, andB_f, orB_t, orB_f, notB_t, notB_f, leI_t, leI_f, ltI_t, ltI_f, eqI_t, eqI_f, leN_t, leN_f, eqN_t, eqN_f, eqS_t, eqS_f, eqB_t, eqB_f, catOk_t, leC_t]; omega, ?_⟩
    rw [bytesOf_rowsB]
    exact hK
theorem scan_end {r : List UInt8} {j : Nat} (hp : (r.take j).all (fun c => nmB (c.toNat : Int)) = true) (hj : j = r.length ∨ ∃ c, r[j]? = some c ∧ nmB (c.toNat : Int) = false) : scanF r = j := scanF_stop r j hp hj
theorem he_con [MaxL] {n : Nat} (hn : 6 ≤ n) : ConOk (evalF Tryz.prog cfgN n) 22 hereCon := by
  intro vs bs K h
  unfold hereCon at h
  split at h
  · rename_i xs s
    obtain ⟨nx, E, rfl, hE, hs, hK⟩ := h
    refine run_of (lp := lpOf [(2, heL fun _ _ x m => heI E s x m), (7, hnL fun c _ x m => hnI c x m)]) (by omega) (ct := ctOf [(73, vlCon), (70, nmCon), (39, inlC Tryz.prog cfgN (ctOf []) 39), (68, inlC Tryz.prog cfgN (ctOf []) 68)])
      (fun k hk => ctOf_ok (ctOf_cons (vl_con (by omega)) (ctOf_cons (nm_con (by omega)) (ctOf_cons (inl_ok (by omega) fun _ _ => noCt_ok _) (ctOf_cons (inl_ok (by omega) fun _ _ => noCt_ok _) (ctOf_nil _)))))) ?_
    rw [he_vc]
    refine ⟨⟨s.length + 1, by omega, [], s, rfl, by omega, hs, by simp, rfl⟩, ?_⟩
    rintro _ m ⟨b, s', rfl, hm, hl, hb, hF⟩
    obtain ⟨k, rfl⟩ : ∃ k, m = k + 1 := ⟨m - 1, by omega⟩
    have fin3 : hereF E (k + 1) s' b = hereEnd b → he_vc_3 (envV nx E) s (fun _ _ x m => heI E s x m) (fun c _ x m => hnI c x m) K ⟨s', b.length, b.length, rowsB b⟩ := fun q => by
      unfold he_vc_3
      simp only [take_rowsB]
      exact ends_ok (by omega) (hF.symm.trans q) hK
    simp only [rowsB_fold, rowsB_len, List.drop_zero, rowsB_app]
    have hA := cutA_le s'
    rw [br_iff]; refine ⟨fun g1 => ?_, fun g1 => fin3 (by
      have g1 : s' = [] := by simpa [br_iff, need_iff, andB_t, andB_f, orB_t, orB_f, notB_t, notB_f, leI_t, leI_f, ltI_t, ltI_f, eqI_t, eqI_f, leN_t, leN_f, eqN_t, eqN_f, eqS_t, eqS_f, eqB_t, eqB_f, catOk_t, leC_t] using g1
      unfold hereF; rw [if_pos (.inl g1)])⟩
    have g1 : ¬ s' = [] := by simpa only [br_iff, need_iff, andB_t, andB_f, orB_t, orB_f, notB_t, notB_f, leI_t, leI_f, ltI_t, ltI_f, eqI_t, eqI_f, leN_t, leN_f, eqN_t, eqN_f, eqS_t, eqS_f, eqB_t, eqB_f, catOk_t, leC_t] using g1
    rw [br_iff]; refine ⟨fun g2 => ?_, fun g2 => fin3 (by
      have g2 : 65536 < b.length := by simp only [br_iff, need_iff, andB_t, andB_f, orB_t, orB_f, notB_t, notB_f, leI_t, leI_f, ltI_t, ltI_f, eqI_t, eqI_f, leN_t, leN_f, eqN_t, eqN_f, eqS_t, eqS_f, eqB_t, eqB_f, catOk_t, leC_t, Int.ofNat_eq_natCast] at g2; omega
      unfold hereF; rw [if_pos (.inr g2)])⟩
    have g2 : b.length ≤ 65536 := by simp only [br_iff, need_iff, andB_t, andB_f, orB_t, orB_f, notB_t, notB_f, leI_t, leI_f, ltI_t, ltI_f, eqI_t, eqI_f, leN_t, leN_f, eqN_t, eqN_f, eqS_t, eqS_f, eqB_t, eqB_f, catOk_t, leC_t, Int.ofNat_eq_natCast] at g2; omega
    have hF0 := hF
    unfold hereF at hF0
    rw [if_neg (by simp [g1]; omega)] at hF0
    rw [need_iff]; refine ⟨by simp; omega, ?_⟩
    rw [need_iff]; refine ⟨rowsB_head _, ?_⟩
    rw [need_iff]; refine ⟨rowsB_head _, ?_⟩
    have two : ∀ j : Nat, cutC s' [36] = true → scanF (cutB s' [36]) = j → he_vc_2 (envV nx E) s (fun _ _ x m => heI E s x m) (fun c _ x m => hnI c x m) K ⟨s', b.length, b.length, rowsB b⟩ (k + 1) ⟨(j : Int)⟩ :=
      fun j hc hj => he2 hE g1 g2 hm hl hc hj hF
    rw [br_iff]; refine ⟨fun g3 => ?_, fun g3 => ?_⟩
    · have ha : cutA s' [36] = [] := List.length_eq_zero_iff.1 (by simp only [br_iff, need_iff, andB_t, andB_f, orB_t, orB_f, notB_t, notB_f, leI_t, leI_f, ltI_t, ltI_f, eqI_t, eqI_f, leN_t, leN_f, eqN_t, eqN_f, eqS_t, eqS_f, eqB_t, eqB_f, catOk_t, leC_t] at g3; omega)
      have two' := fun j h1 h2 => he12 ha (two j h1 h2)
      simp only [ha, show rowsB [] = [] from rfl, List.append_nil, List.length_nil, Nat.add_zero, Nat.zero_add, take_rowsB, drop_rowsB] at hF0 ⊢
      rw [br_iff]; refine ⟨fun g4 => ?_, fun g4 => ?_⟩
      · have g4 : cutC s' [36] = false := by simpa [notB] using g4
        rw [if_pos g4] at hF0
        exact ends_ok (by omega) hF0.symm hK
      · have g4 : cutC s' [36] = true := by simpa [notB] using g4
        refine ⟨⟨(cutB s' [36]).length, by have := cutB_lt g4; omega, 0, rfl, by simp, by simp⟩, ?_⟩
        rintro _ m ⟨j, rfl, hj, hp⟩
        dsimp only at hj hp ⊢
        rw [br_iff]; refine ⟨fun hlt => ?_, fun hge => two' j g4 (scan_end hp (.inl (by simp only [br_iff, need_iff, andB_t, andB_f, orB_t, orB_f, notB_t, notB_f, leI_t, leI_f, ltI_t, ltI_f, eqI_t, eqI_f, leN_t, leN_f, eqN_t, eqN_f, eqS_t, eqS_f, eqB_t, eqB_f, catOk_t, leC_t, lenS] at hge; omega)))⟩
        have hlt : j < (cutB s' [36]).length := by simp only [br_iff, need_iff, andB_t, andB_f, orB_t, orB_f, notB_t, notB_f, leI_t, leI_f, ltI_t, ltI_f, eqI_t, eqI_f, leN_t, leN_f, eqN_t, eqN_f, eqS_t, eqS_f, eqB_t, eqB_f, catOk_t, leC_t, lenS] at hlt; omega
        obtain ⟨c, gc⟩ : ∃ c, (cutB s' [36])[j]? = some c := ⟨_, List.getElem?_eq_getElem hlt⟩
        have hn : andB (leI 0 (j : Int)) (ltI (j : Int) (lenS (cutB s' [36]))) = true := by simp only [br_iff, need_iff, andB_t, andB_f, orB_t, orB_f, notB_t, notB_f, leI_t, leI_f, ltI_t, ltI_f, eqI_t, eqI_f, leN_t, leN_f, eqN_t, eqN_f, eqS_t, eqS_f, eqB_t, eqB_f, catOk_t, leC_t, lenS]; omega
        have hcl := cutB_lt g4
        rw [hn, need_tt, atS_get gc]
        rw [br_iff]; refine ⟨fun q => ?_, fun q => two' j g4 (scan_end hp (.inr ⟨c, gc, q⟩))⟩
        refine ⟨by trivial, m - 1, by omega, j + 1, by rw [addI_i64 (by omega) (by omega)]; rfl, by dsimp only; omega, ?_⟩
        dsimp only
        obtain ⟨h1, rfl⟩ := List.getElem?_eq_some_iff.1 gc
        rw [List.take_succ_eq_append_getElem h1, List.all_append, hp]
        simp only [List.all_cons, List.all_nil, Bool.and_true, Bool.true_and]
        exact q
    · have elen : b.length + (cutA s' [36]).length = (b ++ cutA s' [36]).length := by simp
      rw [need_iff]; refine ⟨by simp only [br_iff, need_iff, andB_t, andB_f, orB_t, orB_f, notB_t, notB_f, leI_t, leI_f, ltI_t, ltI_f, eqI_t, eqI_f, leN_t, leN_f, eqN_t, eqN_f, eqS_t, eqS_f, eqB_t, eqB_f, catOk_t, leC_t]; omega, ?_⟩
      rw [need_iff]; refine ⟨by simp only [br_iff, need_iff, andB_t, andB_f, orB_t, orB_f, notB_t, notB_f, leI_t, leI_f, ltI_t, ltI_f, eqI_t, eqI_f, leN_t, leN_f, eqN_t, eqN_f, eqS_t, eqS_f, eqB_t, eqB_f, catOk_t, leC_t]; omega, ?_⟩
      rw [br_iff]; refine ⟨fun g4 => ?_, fun g4 => ?_⟩
      · have g4 : cutC s' [36] = false := by simpa [notB] using g4
        rw [if_pos g4] at hF0
        simp only [elen, take_rowsB]
        exact ends_ok (by rw [← elen]; omega) hF0.symm hK
      · have g4 : cutC s' [36] = true := by simpa [notB] using g4
        refine ⟨⟨(cutB s' [36]).length, by have := cutB_lt g4; omega, 0, rfl, by simp, by simp⟩, ?_⟩
        rintro _ m ⟨j, rfl, hj, hp⟩
        dsimp only at hj hp ⊢
        rw [br_iff]; refine ⟨fun hlt => ?_, fun hge => two j g4 (scan_end hp (.inl (by simp only [br_iff, need_iff, andB_t, andB_f, orB_t, orB_f, notB_t, notB_f, leI_t, leI_f, ltI_t, ltI_f, eqI_t, eqI_f, leN_t, leN_f, eqN_t, eqN_f, eqS_t, eqS_f, eqB_t, eqB_f, catOk_t, leC_t, lenS] at hge; omega)))⟩
        have hlt : j < (cutB s' [36]).length := by simp only [br_iff, need_iff, andB_t, andB_f, orB_t, orB_f, notB_t, notB_f, leI_t, leI_f, ltI_t, ltI_f, eqI_t, eqI_f, leN_t, leN_f, eqN_t, eqN_f, eqS_t, eqS_f, eqB_t, eqB_f, catOk_t, leC_t, lenS] at hlt; omega
        obtain ⟨c, gc⟩ : ∃ c, (cutB s' [36])[j]? = some c := ⟨_, List.getElem?_eq_getElem hlt⟩
        have hn : andB (leI 0 (j : Int)) (ltI (j : Int) (lenS (cutB s' [36]))) = true := by simp only [br_iff, need_iff, andB_t, andB_f, orB_t, orB_f, notB_t, notB_f, leI_t, leI_f, ltI_t, ltI_f, eqI_t, eqI_f, leN_t, leN_f, eqN_t, eqN_f, eqS_t, eqS_f, eqB_t, eqB_f, catOk_t, leC_t, lenS]; omega
        have hcl := cutB_lt g4
        rw [hn, need_tt, atS_get gc]
        rw [br_iff]; refine ⟨fun q => ?_, fun q => two j g4 (scan_end hp (.inr ⟨c, gc, q⟩))⟩
        refine ⟨by trivial, m - 1, by omega, j + 1, by rw [addI_i64 (by omega) (by omega)]; rfl, by dsimp only; omega, ?_⟩
        dsimp only
        obtain ⟨h1, rfl⟩ := List.getElem?_eq_some_iff.1 gc
        rw [List.take_succ_eq_append_getElem h1, List.all_append, hp]
        simp only [List.all_cons, List.all_nil, Bool.and_true, Bool.true_and]
        exact q
  · exact h.elim
end Go.Proofs.YthhpdnlfhofanaaGreatDoor
