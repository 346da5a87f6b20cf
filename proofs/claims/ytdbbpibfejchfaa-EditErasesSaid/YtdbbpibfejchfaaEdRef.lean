/- Line editors: conditions of the reference's functions. -/
import Derived.Test.YtdbbpibfejchfaaEdWalk
namespace Go.Proofs.Ytdbbpibfejchfaa
open Go.RowKit
set_option maxRecDepth 100000
set_option linter.unusedVariables false
set_option linter.unusedSimpArgs false
structure wdC where
  t : List UInt8
structure wdX where
  n : Int
def wdSt (c : wdC) (x : wdX) : St := ⟨[(0, .str c.t), (3, .int .i64 x.n)], []⟩
set_option maxHeartbeats 4000000 in
def wdUn (s : St) : Option (wdC × wdX) :=
  match s with
  | ⟨[(q0, .str t), (q1, .int .i64 n)], []⟩ => bif Nat.beq q0 0 && Nat.beq q1 3 then some (⟨t⟩, ⟨n⟩) else none
  | _ => none
set_option maxHeartbeats 4000000 in
def wdL (inv : wdC → wdX → wdX → Nat → Prop) : LoopS where
  C := wdC
  X := wdX
  st := wdSt
  un := wdUn
  ok := by
    intro s c x h
    unfold wdUn at h
    split at h
    · simp only [Bool.cond_eq_ite] at h
      split at h
      · rename_i hg
        simp only [Bool.and_eq_true, Nat.beq_eq] at hg
        obtain ⟨rfl, rfl⟩ := hg
        cases h
        rfl
      · cases h
    · cases h
  inv := inv

structure reC where
  cnt : Int
  r : Bool
  t : List UInt8
  xs : List (List V)
structure reX where
  e : List UInt8
  i : Int
def reSt (c : reC) (x : reX) : St := ⟨[(1, .int .i64 c.cnt), (2, .ptr 0 0 0), (4, .ptr 1 0 0), (6, .str x.e), (7, .int .i64 x.i)], [(0, ⟨true, true, true, [[.bool c.r, .str c.t, .lst c.xs]], 0⟩), (1, ⟨true, true, true, [[.bool false, .str [], .nils]], 0⟩)]⟩
set_option maxHeartbeats 4000000 in
def reUn (s : St) : Option (reC × reX) :=
  match s with
  | ⟨[(q0, .int .i64 cnt), (q1, .ptr q2 q3 q4), (q5, .ptr q6 q7 q8), (q9, .str e), (q10, .int .i64 i)], [(q11, ⟨true, true, true, [[.bool r, .str t, .lst xs]], q12⟩), (q13, ⟨true, true, true, [[.bool false, .str [], .nils]], q14⟩)]⟩ => bif Nat.beq q0 1 && Nat.beq q1 2 && Nat.beq q2 0 && Nat.beq q3 0 && Nat.beq q4 0 && Nat.beq q5 4 && Nat.beq q6 1 && Nat.beq q7 0 && Nat.beq q8 0 && Nat.beq q9 6 && Nat.beq q10 7 && Nat.beq q11 0 && Nat.beq q12 0 && Nat.beq q13 1 && Nat.beq q14 0 then some (⟨cnt, r, t, xs⟩, ⟨e, i⟩) else none
  | _ => none
set_option maxHeartbeats 4000000 in
def reL (inv : reC → reX → reX → Nat → Prop) : LoopS where
  C := reC
  X := reX
  st := reSt
  un := reUn
  ok := by
    intro s c x h
    unfold reUn at h
    split at h
    · simp only [Bool.cond_eq_ite] at h
      split at h
      · rename_i hg
        simp only [Bool.and_eq_true, Nat.beq_eq] at hg
        obtain ⟨⟨⟨⟨⟨⟨⟨⟨⟨⟨⟨⟨⟨⟨rfl, rfl⟩, rfl⟩, rfl⟩, rfl⟩, rfl⟩, rfl⟩, rfl⟩, rfl⟩, rfl⟩, rfl⟩, rfl⟩, rfl⟩, rfl⟩, rfl⟩ := hg
        cases h
        rfl
      · cases h
    · cases h
  inv := inv

structure rfdC where
  s : List UInt8
structure rfdX where
  r : Bool
  t : List UInt8
  xs : List (List V)
  e : List UInt8
  i : Int
def rfdSt (c : rfdC) (x : rfdX) : St := ⟨[(1, .str c.s), (2, .ptr 0 0 0), (4, .ptr 1 0 0), (6, .str x.e), (7, .int .i64 x.i)], [(0, ⟨true, true, true, [[.bool x.r, .str x.t, .lst x.xs]], 0⟩), (1, ⟨true, true, true, [[.bool false, .str [], .nils]], 0⟩)]⟩
set_option maxHeartbeats 4000000 in
def rfdUn (s : St) : Option (rfdC × rfdX) :=
  match s with
  | ⟨[(q0, .str s), (q1, .ptr q2 q3 q4), (q5, .ptr q6 q7 q8), (q9, .str e), (q10, .int .i64 i)], [(q11, ⟨true, true, true, [[.bool r, .str t, .lst xs]], q12⟩), (q13, ⟨true, true, true, [[.bool false, .str [], .nils]], q14⟩)]⟩ => bif Nat.beq q0 1 && Nat.beq q1 2 && Nat.beq q2 0 && Nat.beq q3 0 && Nat.beq q4 0 && Nat.beq q5 4 && Nat.beq q6 1 && Nat.beq q7 0 && Nat.beq q8 0 && Nat.beq q9 6 && Nat.beq q10 7 && Nat.beq q11 0 && Nat.beq q12 0 && Nat.beq q13 1 && Nat.beq q14 0 then some (⟨s⟩, ⟨r, t, xs, e, i⟩) else none
  | _ => none
set_option maxHeartbeats 4000000 in
def rfdL (inv : rfdC → rfdX → rfdX → Nat → Prop) : LoopS where
  C := rfdC
  X := rfdX
  st := rfdSt
  un := rfdUn
  ok := by
    intro s c x h
    unfold rfdUn at h
    split at h
    · simp only [Bool.cond_eq_ite] at h
      split at h
      · rename_i hg
        simp only [Bool.and_eq_true, Nat.beq_eq] at hg
        obtain ⟨⟨⟨⟨⟨⟨⟨⟨⟨⟨⟨⟨⟨⟨rfl, rfl⟩, rfl⟩, rfl⟩, rfl⟩, rfl⟩, rfl⟩, rfl⟩, rfl⟩, rfl⟩, rfl⟩, rfl⟩, rfl⟩, rfl⟩, rfl⟩ := hg
        cases h
        rfl
      · cases h
    · cases h
  inv := inv

def wd_vc_1 (t : List UInt8) (I J : wdC → wdX → wdX → Nat → Prop) (K : V → List Bk → Prop) (x4 : (wdL I).X) : Prop :=
  (
        (∃ m6 : Nat, (((m6 : Nat) < 18446744073709551616)) ∧ (
        J (wdC.mk t) (wdX.mk x4.1) (wdX.mk x4.1) m6)) ∧ (
        ∀ x6 : (wdL J).X, ∀ m7 : Nat, (J (wdC.mk t) (wdX.mk x4.1) x6 m7) → (
        br (ltI x6.1 (lenS t)) (
          need (andB (leI 0 (subI IntKind.i64 (subI IntKind.i64 (lenS t) 1) x6.1)) (ltI (subI IntKind.i64 (subI IntKind.i64 (lenS t) 1) x6.1) (lenS t))) (
          br (notB (eqI (atS t (subI IntKind.i64 (subI IntKind.i64 (lenS t) 1) x6.1)) 32)) (
            need (andB (leI 0 (subI IntKind.i64 (subI IntKind.i64 (lenS t) 1) x6.1)) (ltI (subI IntKind.i64 (subI IntKind.i64 (lenS t) 1) x6.1) (lenS t))) (
            br (notB (eqI (atS t (subI IntKind.i64 (subI IntKind.i64 (lenS t) 1) x6.1)) 9)) (
              ((wdC.mk t : (wdL J).C) = wdC.mk t) ∧ (
              ∃ m'8 : Nat, (((m'8 : Nat) < m7)) ∧ (
              J (wdC.mk t) (wdX.mk x4.1) (wdX.mk (addI IntKind.i64 x6.1 1)) m'8))) (
              K (V.int IntKind.i64 x6.1) []))) (
            K (V.int IntKind.i64 x6.1) []))) (
          K (V.int IntKind.i64 x6.1) []))))
theorem wd_vc (t : List UInt8) (I J : wdC → wdX → wdX → Nat → Prop) (K : V → List Bk → Prop) : vcF Try.prog cfgN (ctOf []) (lpOf [(2, wdL I), (4, wdL J)]) 33 [.str t] [] K = (
  (∃ m4 : Nat, (((m4 : Nat) < 18446744073709551616)) ∧ (
  I (wdC.mk t) (wdX.mk 0) (wdX.mk 0) m4)) ∧ (
  ∀ x4 : (wdL I).X, ∀ m5 : Nat, (I (wdC.mk t) (wdX.mk 0) x4 m5) → (
  br (ltI x4.1 (lenS t)) (
    need (andB (leI 0 (subI IntKind.i64 (subI IntKind.i64 (lenS t) 1) x4.1)) (ltI (subI IntKind.i64 (subI IntKind.i64 (lenS t) 1) x4.1) (lenS t))) (
    br (eqI (atS t (subI IntKind.i64 (subI IntKind.i64 (lenS t) 1) x4.1)) 32) (
      ((wdC.mk t : (wdL I).C) = wdC.mk t) ∧ (
      ∃ m'6 : Nat, (((m'6 : Nat) < m5)) ∧ (
      I (wdC.mk t) (wdX.mk 0) (wdX.mk (addI IntKind.i64 x4.1 1)) m'6))) (
      need (andB (leI 0 (subI IntKind.i64 (subI IntKind.i64 (lenS t) 1) x4.1)) (ltI (subI IntKind.i64 (subI IntKind.i64 (lenS t) 1) x4.1) (lenS t))) (
      br (eqI (atS t (subI IntKind.i64 (subI IntKind.i64 (lenS t) 1) x4.1)) 9) (
        ((wdC.mk t : (wdL I).C) = wdC.mk t) ∧ (
        ∃ m'6 : Nat, (((m'6 : Nat) < m5)) ∧ (
        I (wdC.mk t) (wdX.mk 0) (wdX.mk (addI IntKind.i64 x4.1 1)) m'6))) (wd_vc_1 t I J K x4))))) (wd_vc_1 t I J K x4)))) := by kernel_rfl

theorem rdl_vc (r : Bool) (t : List UInt8) (xs : List (List V)) (s : List UInt8) (K : V → List Bk → Prop) : vcF Try.prog cfgN (ctOf []) (lpOf []) 31 [.agg [.bool r, .str t, .lst xs], .str s] [] K = (
  br (leI 1024 (lenL xs)) (
    K (V.tup [V.agg [V.bool r, V.str t, V.lst xs], V.bool false]) []) (
    need (headOkP 1 xs) (
    need (leN (xs.length * 16) 140737488355328) (
    need (headOkP 1 xs) (
    br (leN (xs.length + 1) xs.length) (
      K (V.tup [V.agg [V.bool r, V.str [], V.lst (List.take (xs.length + 1) (List.drop 0 (List.take (0 + xs.length) xs ++ [[V.str s]] ++ List.drop (0 + xs.length + 1) xs)))], V.bool true]) []) (
      need (eqN (0 + xs.length) xs.length) (
      need (leN ((xs.length + 1) * 16) 140737488355328) (
      K (V.tup [V.agg [V.bool r, V.str [], V.lst (List.take (xs.length + 1) (List.drop 0 (List.drop 0 xs ++ [[V.str s]])))], V.bool true]) [])))))))) := by kernel_rfl

theorem re_vc (r : Bool) (t : List UInt8) (xs : List (List V)) (n : Int) (I : reC → reX → reX → Nat → Prop) (K : V → List Bk → Prop) : vcF Try.prog cfgN (ctOf []) (lpOf [(4, reL I)]) 32 [.agg [.bool r, .str t, .lst xs], .int .i64 n] [] K = (
  need (andB (leI 0 (subI IntKind.i64 (lenS t) n)) (leI (subI IntKind.i64 (lenS t) n) (lenS t))) (
  (∃ m6 : Nat, (((m6 : Nat) < 18446744073709551616)) ∧ (
  I (reC.mk n r (cutS t 0 (subI IntKind.i64 (lenS t) n)) xs) (reX.mk [] 0) (reX.mk [] 0) m6)) ∧ (
  ∀ x6 : (reL I).X, ∀ m7 : Nat, (I (reC.mk n r (cutS t 0 (subI IntKind.i64 (lenS t) n)) xs) (reX.mk [] 0) x6 m7) → (
  br (ltI x6.2 n) (
    need (catOk x6.1 [8, 32, 8]) (
    ((reC.mk n r (cutS t 0 (subI IntKind.i64 (lenS t) n)) xs : (reL I).C) = reC.mk n r (cutS t 0 (subI IntKind.i64 (lenS t) n)) xs) ∧ (
    ∃ m'8 : Nat, (((m'8 : Nat) < m7)) ∧ (
    I (reC.mk n r (cutS t 0 (subI IntKind.i64 (lenS t) n)) xs) (reX.mk [] 0) (reX.mk (catS x6.1 [8, 32, 8]) (addI IntKind.i64 x6.2 1)) m'8)))) (
    K (V.tup [V.agg [V.bool r, V.str (cutS t 0 (subI IntKind.i64 (lenS t) n)), V.lst xs], V.str x6.1]) []))))) := by kernel_rfl

def rty_vc_1 (r : Bool) (t : List UInt8) (xs : List (List V)) (c : Int) (K : V → List Bk → Prop) : Prop :=
  (
                need (catOk t [10]) (
                ∃ l5 : List (List UInt8), ((xs : List (List V)) = strV l5) ∧ (
                (((l5.length : Nat) ≤ 100000)) ∧ (
                br (ltI (Int.ofNat l5.length) 1024) (
                  K (V.tup [V.agg [V.bool r, V.str [], V.lst (strV (l5 ++ [catS t [10]]))], V.str [10]]) []) (
                  K (V.tup [V.agg [V.bool r, V.str t, V.lst xs], V.str []]) [])))))
def rty_vc_2 (r : Bool) (t : List UInt8) (xs : List (List V)) (c : Int) (K : V → List Bk → Prop) : Prop :=
  (
        (((t.length : Nat) ≤ 100000)) ∧ (
        (((0 : Int) ≤ minI 1 (lenS t))) ∧ (
        (((minI 1 (lenS t) : Int) ≤ Int.ofNat t.length)) ∧ (
        K (V.tup [V.agg [V.bool r, V.str (List.take (t.length - (minI 1 (lenS t)).toNat) t), V.lst xs], V.str (rub (minI 1 (lenS t)).toNat)]) []))))
theorem rty_vc (r : Bool) (t : List UInt8) (xs : List (List V)) (c : Int) (K : V → List Bk → Prop) : vcF Try.prog cfgN (ctOf [(16, prCon), (31, rdelivCon), (32, reraseCon), (33, wordCon)]) (lpOf []) 22 [.agg [.bool r, .str t, .lst xs], .int .u8 c] [] K = (
  br (r) (
    ∃ l5 : List (List UInt8), ((xs : List (List V)) = strV l5) ∧ (
    (((l5.length : Nat) ≤ 100000)) ∧ (
    br (ltI (Int.ofNat l5.length) 1024) (
      K (V.tup [V.agg [V.bool r, V.str [], V.lst (strV (l5 ++ [[UInt8.ofNat c.toNat]]))], V.str []]) []) (
      K (V.tup [V.agg [V.bool r, V.str t, V.lst (strV l5)], V.str []]) [])))) (
    br (prB c) (
      br (ltI (lenS t) 1024) (
        need (catOk t [UInt8.ofNat c.toNat]) (
        K (V.tup [V.agg [V.bool r, V.str (catS t [UInt8.ofNat c.toNat]), V.lst xs], V.str [UInt8.ofNat c.toNat]]) [])) (
        K (V.tup [V.agg [V.bool r, V.str t, V.lst xs], V.str []]) [])) (
      br (eqI c 8) (rty_vc_2 r t xs c K) (
        br (eqI c 127) (rty_vc_2 r t xs c K) (
          br (eqI c 21) (
            (((t.length : Nat) ≤ 100000)) ∧ (
            (((0 : Int) ≤ lenS t)) ∧ (
            (((lenS t : Int) ≤ Int.ofNat t.length)) ∧ (
            K (V.tup [V.agg [V.bool r, V.str (List.take (t.length - (lenS t).toNat) t), V.lst xs], V.str (rub (lenS t).toNat)]) [])))) (
            br (eqI c 23) (
              (((t.length : Nat) ≤ 100000)) ∧ (
              (((t.length : Nat) ≤ 100000)) ∧ (
              (((0 : Int) ≤ Int.ofNat (wordN t))) ∧ (
              (((Int.ofNat (wordN t) : Int) ≤ Int.ofNat t.length)) ∧ (
              K (V.tup [V.agg [V.bool r, V.str (List.take (t.length - (Int.ofNat (wordN t)).toNat) t), V.lst xs], V.str (rub (Int.ofNat (wordN t)).toNat)]) []))))) (
              br (eqI c 10) (rty_vc_1 r t xs c K) (
                br (eqI c 13) (rty_vc_1 r t xs c K) (
                  br (eqI c 4) (
                    ∃ l5 : List (List UInt8), ((xs : List (List V)) = strV l5) ∧ (
                    (((l5.length : Nat) ≤ 100000)) ∧ (
                    br (ltI (Int.ofNat l5.length) 1024) (
                      K (V.tup [V.agg [V.bool r, V.str [], V.lst (strV (l5 ++ [t]))], V.str []]) []) (
                      K (V.tup [V.agg [V.bool r, V.str t, V.lst (strV l5)], V.str []]) [])))) (
                    K (V.tup [V.agg [V.bool r, V.str t, V.lst xs], V.str []]) [])))))))))) := by kernel_rfl

theorem rfd_vc (r : Bool) (t : List UInt8) (xs : List (List V)) (s : List UInt8) (I : rfdC → rfdX → rfdX → Nat → Prop) (K : V → List Bk → Prop) : vcF Try.prog cfgN (ctOf [(22, typeCon)]) (lpOf [(3, rfdL I)]) 10 [.agg [.bool r, .str t, .lst xs], .str s] [] K = (
  (∃ m6 : Nat, (((m6 : Nat) < 18446744073709551616)) ∧ (
  I (rfdC.mk s) (rfdX.mk r t xs [] 0) (rfdX.mk r t xs [] 0) m6)) ∧ (
  ∀ x6 : (rfdL I).X, ∀ m7 : Nat, (I (rfdC.mk s) (rfdX.mk r t xs [] 0) x6 m7) → (
  br (ltI x6.5 (lenS s)) (
    need (andB (leI 0 x6.5) (ltI x6.5 (lenS s))) (
    ∃ l8 : List (List UInt8), ((x6.3 : List (List V)) = strV l8) ∧ (
    ((rightL (Line.mk x6.1 x6.2 l8) : Bool) = true) ∧ (
    (((0 : Int) ≤ atS s x6.5)) ∧ (
    (((atS s x6.5 : Int) ≤ 255)) ∧ (
    need (catOk x6.4 (typeF (Line.mk x6.r x6.t l8) (atS (rfdC.mk s).s x6.i)).2) (
    ((rfdC.mk s : (rfdL I).C) = rfdC.mk s) ∧ (
    ∃ m'9 : Nat, (((m'9 : Nat) < m7)) ∧ (
    I (rfdC.mk s) (rfdX.mk r t xs [] 0) (rfdX.mk (typeF (Line.mk x6.r x6.t l8) (atS (rfdC.mk s).s x6.i)).fst.1 (typeF (Line.mk x6.r x6.t l8) (atS (rfdC.mk s).s x6.i)).fst.2 (strV (typeF (Line.mk x6.r x6.t l8) (atS (rfdC.mk s).s x6.i)).fst.3) (catS x6.4 (typeF (Line.mk x6.r x6.t l8) (atS (rfdC.mk s).s x6.i)).2) (addI IntKind.i64 x6.5 1)) m'9))))))))) (
    K (V.tup [V.agg [V.bool x6.1, V.str x6.2, V.lst x6.3], V.str x6.4]) [])))) := by kernel_rfl

end Go.Proofs.Ytdbbpibfejchfaa
namespace Go.Proofs.Ytdbbpibfejchfaa
open Go.RowKit
set_option maxRecDepth 100000
set_option linter.unusedVariables false
set_option linter.unusedSimpArgs false
theorem atS_rev {t : List UInt8} {j : Nat} (h : j < t.length) (hb : t.length ≤ 100000) : subI .i64 (subI .i64 (lenS t) 1) (j : Int) = ((t.length - (j + 1) : Nat) : Int) := by
  rw [subI_i64 (a := lenS t) (by unfold lenS; omega) (by unfold lenS; omega), subI_i64 (by unfold lenS; omega) (by unfold lenS; omega)]
  unfold lenS; omega
theorem scanB_step {p : Int → Bool} {t : List UInt8} {j : Nat} (h : j < t.length) : scanB p t (t.length - j) = if p (atS t ((t.length - (j + 1) : Nat) : Int)) = true then scanB p t (t.length - (j + 1)) else t.length - j := by
  rw [show t.length - j = (t.length - (j + 1)) + 1 by omega, scanB]
  rfl
theorem bl_eq (c : Int) : blB c = (eqI c 9 || eqI c 32) := rfl
theorem wd_con {n : Nat} (hn : 1 ≤ n) : ConOk (evalF Try.prog cfgN n) 33 wordCon := by
  intro vs bs K h
  unfold wordCon at h
  split at h
  · rename_i t
    obtain ⟨hb, hK⟩ := h
    refine run_of (lp := lpOf [(2, wdL fun _ _ x m => ∃ j : Nat, x = ⟨(j : Int)⟩ ∧ j + m = t.length ∧ scanB blB t t.length = scanB blB t (t.length - j)), (4, wdL fun _ _ x m => ∃ j : Nat, x = ⟨(j : Int)⟩ ∧ j + m = t.length ∧ scanB nbl t (scanB blB t t.length) = scanB nbl t (t.length - j))]) (by omega) (fun k hk => noCt_ok _) ?_
    rw [wd_vc]
    have main : ∀ j : Nat, j ≤ t.length → scanB blB t t.length = t.length - j → wd_vc_1 t (fun _ _ x m => ∃ j : Nat, x = ⟨(j : Int)⟩ ∧ j + m = t.length ∧ scanB blB t t.length = scanB blB t (t.length - j)) (fun _ _ x m => ∃ j : Nat, x = ⟨(j : Int)⟩ ∧ j + m = t.length ∧ scanB nbl t (scanB blB t t.length) = scanB nbl t (t.length - j)) K ⟨(j : Int)⟩ := by
      intro j hj he
      unfold wd_vc_1
      refine ⟨⟨t.length - j, by omega, j, rfl, by omega, by rw [he]⟩, ?_⟩
      rintro _ m ⟨i, rfl, hi, hp⟩
      dsimp only
      have fin : scanB nbl t (t.length - i) = t.length - i → K (.int .i64 (i : Int)) [] := by
        intro e
        have : wordN t = i := by unfold wordN; rw [hp, e]; omega
        rw [this] at hK; exact hK
      rw [br_iff]
      refine ⟨fun q => ?_, fun q => fin (by simp only [br_iff, need_iff, andB_t, andB_f, orB_t, orB_f, notB_t, notB_f, leI_t, leI_f, ltI_t, ltI_f, eqI_t, eqI_f, leN_t, leN_f, eqN_t, eqN_f, eqS_t, eqS_f, eqB_t, eqB_f, catOk_t, leC_t, lenS] at q; rw [show t.length - i = 0 by omega]; rfl)⟩
      have hlt : i < t.length := by simp only [br_iff, need_iff, andB_t, andB_f, orB_t, orB_f, notB_t, notB_f, leI_t, leI_f, ltI_t, ltI_f, eqI_t, eqI_f, leN_t, leN_f, eqN_t, eqN_f, eqS_t, eqS_f, eqB_t, eqB_f, catOk_t, leC_t, lenS] at q; omega
      have hs := scanB_step (p := nbl) hlt
      rw [atS_rev hlt hb]
      generalize hc : atS t ((t.length - (i + 1) : Nat) : Int) = c at hs ⊢
      have hn : need (andB (leI 0 ((t.length - (i + 1) : Nat) : Int)) (ltI ((t.length - (i + 1) : Nat) : Int) (lenS t))) = fun A => A := by
        funext A
        have : andB (leI 0 ((t.length - (i + 1) : Nat) : Int)) (ltI ((t.length - (i + 1) : Nat) : Int) (lenS t)) = true := by simp only [br_iff, need_iff, andB_t, andB_f, orB_t, orB_f, notB_t, notB_f, leI_t, leI_f, ltI_t, ltI_f, eqI_t, eqI_f, leN_t, leN_f, eqN_t, eqN_f, eqS_t, eqS_f, eqB_t, eqB_f, catOk_t, leC_t, lenS]; omega
        rw [this]; rfl
      rw [hn]
      rw [br_iff]
      refine ⟨fun w => ?_, fun w => fin ?_⟩
      · rw [br_iff]
        refine ⟨fun w2 => ⟨by trivial, m - 1, by omega, i + 1, by rw [addI_i64 (by omega) (by omega)]; rfl, by omega, ?_⟩, fun w2 => fin ?_⟩
        · rw [hp, hs, if_pos]
          simp only [notB, Bool.not_eq_true'] at w w2
          simp only [nbl, bl_eq, w, w2]; rfl
        · rw [hs, if_neg]
          simp only [notB, Bool.not_eq_false'] at w2
          simp only [nbl, bl_eq, w2]; simp
      · rw [hs, if_neg]
        simp only [notB, Bool.not_eq_false'] at w
        simp only [nbl, bl_eq, w]; simp
    refine ⟨⟨t.length, by omega, 0, rfl, by omega, rfl⟩, ?_⟩
    rintro _ m ⟨i, rfl, hi, hp⟩
    dsimp only
    rw [br_iff]
    refine ⟨fun q => ?_, fun q => main i (by omega) (by simp only [br_iff, need_iff, andB_t, andB_f, orB_t, orB_f, notB_t, notB_f, leI_t, leI_f, ltI_t, ltI_f, eqI_t, eqI_f, leN_t, leN_f, eqN_t, eqN_f, eqS_t, eqS_f, eqB_t, eqB_f, catOk_t, leC_t, lenS] at q; rw [hp, show t.length - i = 0 by omega]; rfl)⟩
    have hlt : i < t.length := by simp only [br_iff, need_iff, andB_t, andB_f, orB_t, orB_f, notB_t, notB_f, leI_t, leI_f, ltI_t, ltI_f, eqI_t, eqI_f, leN_t, leN_f, eqN_t, eqN_f, eqS_t, eqS_f, eqB_t, eqB_f, catOk_t, leC_t, lenS] at q; omega
    have hs := scanB_step (p := blB) hlt
    rw [atS_rev hlt hb]
    generalize hc : atS t ((t.length - (i + 1) : Nat) : Int) = c at hs ⊢
    have hn : need (andB (leI 0 ((t.length - (i + 1) : Nat) : Int)) (ltI ((t.length - (i + 1) : Nat) : Int) (lenS t))) = fun A => A := by
      funext A
      have : andB (leI 0 ((t.length - (i + 1) : Nat) : Int)) (ltI ((t.length - (i + 1) : Nat) : Int) (lenS t)) = true := by simp only [br_iff, need_iff, andB_t, andB_f, orB_t, orB_f, notB_t, notB_f, leI_t, leI_f, ltI_t, ltI_f, eqI_t, eqI_f, leN_t, leN_f, eqN_t, eqN_f, eqS_t, eqS_f, eqB_t, eqB_f, catOk_t, leC_t, lenS]; omega
      rw [this]; rfl
    rw [hn]
    rw [br_iff]
    refine ⟨fun w => ⟨by trivial, m - 1, by omega, i + 1, by rw [addI_i64 (by omega) (by omega)]; rfl, by omega, ?_⟩, fun w => ?_⟩
    · rw [hp, hs, if_pos]
      simp only [bl_eq, w]; simp
    · rw [br_iff]
      refine ⟨fun w2 => ⟨by trivial, m - 1, by omega, i + 1, by rw [addI_i64 (by omega) (by omega)]; rfl, by omega, ?_⟩, fun w2 => main i (by omega) ?_⟩
      · rw [hp, hs, if_pos]
        simp only [bl_eq, w2]; simp
      · rw [hp, hs, if_neg]
        simp only [bl_eq, w, w2]; simp
  · exact h.elim
theorem rdl_con {n : Nat} (hn : 1 ≤ n) : ConOk (evalF Try.prog cfgN n) 31 rdelivCon := by
  intro vs bs K h
  unfold rdelivCon at h
  split at h
  · rename_i r t xs s
    obtain ⟨l, rfl, h1, hK⟩ := h
    refine run_of (lp := lpOf []) hn (fun k _ => noCt_ok _) ?_
    rw [rdl_vc]
    simp only [strV_lenL, strV_len]
    rw [br_iff] at hK ⊢
    refine ⟨fun g => hK.2 (by simp only [br_iff, need_iff, andB_t, andB_f, orB_t, orB_f, notB_t, notB_f, leI_t, leI_f, ltI_t, ltI_f, eqI_t, eqI_f, leN_t, leN_f, eqN_t, eqN_f, eqS_t, eqS_f, eqB_t, eqB_f, catOk_t, leC_t, Int.ofNat_eq_natCast] at g ⊢; exact g), fun g => ?_⟩
    have hK := hK.1 (by simp only [br_iff, need_iff, andB_t, andB_f, orB_t, orB_f, notB_t, notB_f, leI_t, leI_f, ltI_t, ltI_f, eqI_t, eqI_f, leN_t, leN_f, eqN_t, eqN_f, eqS_t, eqS_f, eqB_t, eqB_f, catOk_t, leC_t, Int.ofNat_eq_natCast] at g ⊢; exact g)
    simp only [leN_succ, eqN_self, leI_self, br_ff, br_tt, need_tt, andB_tt, List.drop_zero, List.nil_append, List.append_nil, Nat.zero_add, Nat.add_zero, Nat.sub_zero, List.take_length, Int.ofNat_eq_natCast, Int.toNat_natCast, Int.toNat_zero, strV_len, strV_one, strV_app]
    rw [need_iff]; refine ⟨strV_head _, ?_⟩
    rw [need_iff]; refine ⟨by simp only [br_iff, need_iff, andB_t, andB_f, orB_t, orB_f, notB_t, notB_f, leI_t, leI_f, ltI_t, ltI_f, eqI_t, eqI_f, leN_t, leN_f, eqN_t, eqN_f, eqS_t, eqS_f, eqB_t, eqB_f, catOk_t, leC_t]; omega, ?_⟩
    rw [need_iff]; refine ⟨strV_head _, ?_⟩
    rw [need_iff]; refine ⟨by simp only [br_iff, need_iff, andB_t, andB_f, orB_t, orB_f, notB_t, notB_f, leI_t, leI_f, ltI_t, ltI_f, eqI_t, eqI_f, leN_t, leN_f, eqN_t, eqN_f, eqS_t, eqS_f, eqB_t, eqB_f, catOk_t, leC_t]; omega, ?_⟩
    rw [show l.length + 1 = (l ++ [s]).length by simp, strV_all]
    exact hK
  · exact h.elim
theorem rub_succ (k : Nat) : rub k ++ [8, 32, 8] = rub (k + 1) := by
  unfold rub
  induction k with
  | zero => rfl
  | succ k ih => simp only [Lib.repeatL] at ih ⊢; rw [List.append_assoc, ih]
theorem re_con {n : Nat} (hn : 1 ≤ n) : ConOk (evalF Try.prog cfgN n) 32 reraseCon := by
  intro vs bs K h
  unfold reraseCon at h
  split at h
  · rename_i r t xs c
    obtain ⟨hb, h0, h1, hK⟩ := h
    obtain ⟨c, rfl⟩ := Int.eq_ofNat_of_zero_le h0
    refine run_of (lp := lpOf [(4, reL fun _ _ x m => ∃ j : Nat, x = ⟨rub j, (j : Int)⟩ ∧ j + m = c)]) (by omega) (fun k hk => noCt_ok _) ?_
    rw [re_vc]
    have e1 : subI .i64 (lenS t) (c : Int) = ((t.length - c : Nat) : Int) := by
      rw [subI_i64 (by unfold lenS; omega) (by unfold lenS; omega)]
      unfold lenS; omega
    rw [e1, need_iff]; refine ⟨by simp only [br_iff, need_iff, andB_t, andB_f, orB_t, orB_f, notB_t, notB_f, leI_t, leI_f, ltI_t, ltI_f, eqI_t, eqI_f, leN_t, leN_f, eqN_t, eqN_f, eqS_t, eqS_f, eqB_t, eqB_f, catOk_t, leC_t, lenS]; omega, ⟨c, by omega, 0, rfl, by omega⟩, ?_⟩
    rintro _ m ⟨j, rfl, hj⟩
    dsimp only
    rw [br_iff]
    refine ⟨fun q => ?_, fun q => ?_⟩
    · have hlt : j < c := by simp only [br_iff, need_iff, andB_t, andB_f, orB_t, orB_f, notB_t, notB_f, leI_t, leI_f, ltI_t, ltI_f, eqI_t, eqI_f, leN_t, leN_f, eqN_t, eqN_f, eqS_t, eqS_f, eqB_t, eqB_f, catOk_t, leC_t] at q; omega
      have := rub_len j
      rw [need_iff]; refine ⟨by simp only [br_iff, need_iff, andB_t, andB_f, orB_t, orB_f, notB_t, notB_f, leI_t, leI_f, ltI_t, ltI_f, eqI_t, eqI_f, leN_t, leN_f, eqN_t, eqN_f, eqS_t, eqS_f, eqB_t, eqB_f, catOk_t, leC_t, List.length_cons, List.length_nil]; omega, by trivial, m - 1, by omega, j + 1, ?_, by omega⟩
      rw [addI_i64 (by omega) (by omega), ← rub_succ]; rfl
    · obtain rfl : j = c := by simp only [br_iff, need_iff, andB_t, andB_f, orB_t, orB_f, notB_t, notB_f, leI_t, leI_f, ltI_t, ltI_f, eqI_t, eqI_f, leN_t, leN_f, eqN_t, eqN_f, eqS_t, eqS_f, eqB_t, eqB_f, catOk_t, leC_t] at q; omega
      have e2 : cutS t 0 ((t.length - j : Nat) : Int) = t.take (t.length - j) := by simp [cutS]
      rw [e2]
      exact hK
  · exact h.elim
theorem rty_con {n : Nat} (hn : 2 ≤ n) : ConOk (evalF Try.prog cfgN n) 22 typeCon := by
  intro vs bs K h
  unfold typeCon at h
  split at h
  · rename_i r t xs c
    obtain ⟨l, rfl, hR, h0, h1, hK⟩ := h
    refine run_of (lp := lpOf []) (by omega) (ct := ctOf [(16, prCon), (31, rdelivCon), (32, reraseCon), (33, wordCon)])
      (fun k hk => ctOf_ok (ctOf_cons (rpr_con (by omega)) (ctOf_cons (rdl_con (by omega)) (ctOf_cons (re_con (by omega)) (ctOf_cons (wd_con (by omega)) (ctOf_nil _)))))) ?_
    rw [rty_vc]
    obtain ⟨a1, a2, a3, a4, a5⟩ := (rightL_iff _).1 hR
    dsimp only at a1 a2 a3 a4 a5
    have f : ∀ {l' : Line} {e : List UInt8}, typeF ⟨r, t, l⟩ c = (l', e) → K (.tup [.agg [.bool l'.raw, .str l'.text, .lst (strV l'.ready)], .str e]) [] := fun h => by rw [h] at hK; exact hK
    clear hK
    rw [br_iff]
    refine ⟨fun hr => ?_, fun hr => ?_⟩
    · subst hr
      refine ⟨l, rfl, by omega, ?_⟩
      have ht := a2 rfl
      subst ht
      rw [br_iff]
      refine ⟨fun g => ?_, fun g => ?_⟩
      · exact f (l' := ⟨true, [], l ++ [byteL c]⟩) (e := []) (by unfold typeF; rw [if_pos rfl, if_pos (by simp only [br_iff, need_iff, andB_t, andB_f, orB_t, orB_f, notB_t, notB_f, leI_t, leI_f, ltI_t, ltI_f, eqI_t, eqI_f, leN_t, leN_f, eqN_t, eqN_f, eqS_t, eqS_f, eqB_t, eqB_f, catOk_t, leC_t, Int.ofNat_eq_natCast] at g; show l.length < 1024; omega)])
      · exact f (l' := ⟨true, [], l⟩) (e := []) (by unfold typeF; rw [if_pos rfl, if_neg (by simp only [br_iff, need_iff, andB_t, andB_f, orB_t, orB_f, notB_t, notB_f, leI_t, leI_f, ltI_t, ltI_f, eqI_t, eqI_f, leN_t, leN_f, eqN_t, eqN_f, eqS_t, eqS_f, eqB_t, eqB_f, catOk_t, leC_t, Int.ofNat_eq_natCast] at g; show ¬ l.length < 1024; omega)])
    subst hr
    have nl : c = 10 ∨ c = 13 → rty_vc_1 false t (strV l) c K := by
      intro hc
      unfold rty_vc_1
      rw [need_iff]; refine ⟨by simp only [br_iff, need_iff, andB_t, andB_f, orB_t, orB_f, notB_t, notB_f, leI_t, leI_f, ltI_t, ltI_f, eqI_t, eqI_f, leN_t, leN_f, eqN_t, eqN_f, eqS_t, eqS_f, eqB_t, eqB_f, catOk_t, leC_t, List.length_singleton]; omega, l, rfl, by omega, ?_⟩
      rw [br_iff]
      refine ⟨fun g => ?_, fun g => ?_⟩
      · exact f (l' := ⟨false, [], l ++ [t ++ [10]]⟩) (e := [10]) (by unfold typeF; rw [if_neg (by simp), if_neg (by omega), if_pos hc, if_pos (by simp only [br_iff, need_iff, andB_t, andB_f, orB_t, orB_f, notB_t, notB_f, leI_t, leI_f, ltI_t, ltI_f, eqI_t, eqI_f, leN_t, leN_f, eqN_t, eqN_f, eqS_t, eqS_f, eqB_t, eqB_f, catOk_t, leC_t, Int.ofNat_eq_natCast] at g; show l.length < 1024; omega)])
      · exact f (l' := ⟨false, t, l⟩) (e := []) (by unfold typeF; rw [if_neg (by simp), if_neg (by omega), if_pos hc, if_neg (by simp only [br_iff, need_iff, andB_t, andB_f, orB_t, orB_f, notB_t, notB_f, leI_t, leI_f, ltI_t, ltI_f, eqI_t, eqI_f, leN_t, leN_f, eqN_t, eqN_f, eqS_t, eqS_f, eqB_t, eqB_f, catOk_t, leC_t, Int.ofNat_eq_natCast] at g; show ¬ l.length < 1024; omega)])
    have er : c = 8 ∨ c = 127 ∨ c = 21 ∨ c = 23 → ∀ k, k = erasedN t c → K (.tup [.agg [.bool false, .str (t.take (t.length - k)), .lst (strV l)], .str (rub k)]) [] := by
      rintro hc k rfl
      exact f (l' := ⟨false, t.take (t.length - erasedN t c), l⟩) (e := rub (erasedN t c)) (by unfold typeF; rw [if_neg (by simp), if_pos hc]; rfl)
    have er1 : c = 8 ∨ c = 127 → rty_vc_2 false t (strV l) c K := by
      intro hc
      unfold rty_vc_2
      refine ⟨by omega, by unfold minI lenS; omega, by unfold minI lenS; simp; omega, ?_⟩
      exact er (by omega) _ (by unfold erasedN minI lenS; rw [if_neg (by omega), if_neg (by omega)]; omega)
    rw [br_iff]; refine ⟨fun gp => ?_, fun gp => ?_⟩
    · have hp : ¬ (c = 8 ∨ c = 127 ∨ c = 21 ∨ c = 23) ∧ ¬ (c = 10 ∨ c = 13) ∧ ¬ c = 4 := by
        simp [prB] at gp; omega
      rw [br_iff]; refine ⟨fun g => ?_, fun g => ?_⟩
      · rw [need_iff]; refine ⟨by simp only [br_iff, need_iff, andB_t, andB_f, orB_t, orB_f, notB_t, notB_f, leI_t, leI_f, ltI_t, ltI_f, eqI_t, eqI_f, leN_t, leN_f, eqN_t, eqN_f, eqS_t, eqS_f, eqB_t, eqB_f, catOk_t, leC_t, List.length_singleton]; omega, ?_⟩
        exact f (l' := ⟨false, t ++ byteL c, l⟩) (e := byteL c) (by unfold typeF; rw [if_neg (by simp), if_neg hp.1, if_neg hp.2.1, if_neg hp.2.2, if_pos gp, if_pos (by simp only [br_iff, need_iff, andB_t, andB_f, orB_t, orB_f, notB_t, notB_f, leI_t, leI_f, ltI_t, ltI_f, eqI_t, eqI_f, leN_t, leN_f, eqN_t, eqN_f, eqS_t, eqS_f, eqB_t, eqB_f, catOk_t, leC_t, lenS] at g; simp only; omega)])
      · exact f (l' := ⟨false, t, l⟩) (e := []) (by unfold typeF; rw [if_neg (by simp), if_neg hp.1, if_neg hp.2.1, if_neg hp.2.2, if_pos gp, if_neg (by simp only [br_iff, need_iff, andB_t, andB_f, orB_t, orB_f, notB_t, notB_f, leI_t, leI_f, ltI_t, ltI_f, eqI_t, eqI_f, leN_t, leN_f, eqN_t, eqN_f, eqS_t, eqS_f, eqB_t, eqB_f, catOk_t, leC_t, lenS] at g; simp only; omega)])
    rw [br_iff]; refine ⟨fun g => er1 (by simp only [br_iff, need_iff, andB_t, andB_f, orB_t, orB_f, notB_t, notB_f, leI_t, leI_f, ltI_t, ltI_f, eqI_t, eqI_f, leN_t, leN_f, eqN_t, eqN_f, eqS_t, eqS_f, eqB_t, eqB_f, catOk_t, leC_t] at g; omega), fun g8 => ?_⟩
    rw [br_iff]; refine ⟨fun g => er1 (by simp only [br_iff, need_iff, andB_t, andB_f, orB_t, orB_f, notB_t, notB_f, leI_t, leI_f, ltI_t, ltI_f, eqI_t, eqI_f, leN_t, leN_f, eqN_t, eqN_f, eqS_t, eqS_f, eqB_t, eqB_f, catOk_t, leC_t] at g; omega), fun g127 => ?_⟩
    simp only [br_iff, need_iff, andB_t, andB_f, orB_t, orB_f, notB_t, notB_f, leI_t, leI_f, ltI_t, ltI_f, eqI_t, eqI_f, leN_t, leN_f, eqN_t, eqN_f, eqS_t, eqS_f, eqB_t, eqB_f, catOk_t, leC_t] at g8 g127
    rw [br_iff]; refine ⟨fun g => ?_, fun g21 => ?_⟩
    · have hc : c = 21 := by simpa only [br_iff, need_iff, andB_t, andB_f, orB_t, orB_f, notB_t, notB_f, leI_t, leI_f, ltI_t, ltI_f, eqI_t, eqI_f, leN_t, leN_f, eqN_t, eqN_f, eqS_t, eqS_f, eqB_t, eqB_f, catOk_t, leC_t] using g
      refine ⟨by omega, by unfold lenS; omega, by unfold lenS; simp, ?_⟩
      exact er (by omega) _ (by unfold erasedN lenS; rw [if_pos hc]; simp)
    simp only [br_iff, need_iff, andB_t, andB_f, orB_t, orB_f, notB_t, notB_f, leI_t, leI_f, ltI_t, ltI_f, eqI_t, eqI_f, leN_t, leN_f, eqN_t, eqN_f, eqS_t, eqS_f, eqB_t, eqB_f, catOk_t, leC_t] at g21
    rw [br_iff]; refine ⟨fun g => ?_, fun g23 => ?_⟩
    · have hc : c = 23 := by simpa only [br_iff, need_iff, andB_t, andB_f, orB_t, orB_f, notB_t, notB_f, leI_t, leI_f, ltI_t, ltI_f, eqI_t, eqI_f, leN_t, leN_f, eqN_t, eqN_f, eqS_t, eqS_f, eqB_t, eqB_f, catOk_t, leC_t] using g
      have := wordN_le t
      refine ⟨by omega, by omega, by simp, by simp; omega, ?_⟩
      exact er (by omega) _ (by unfold erasedN; rw [if_neg g21, if_pos hc]; simp)
    simp only [br_iff, need_iff, andB_t, andB_f, orB_t, orB_f, notB_t, notB_f, leI_t, leI_f, ltI_t, ltI_f, eqI_t, eqI_f, leN_t, leN_f, eqN_t, eqN_f, eqS_t, eqS_f, eqB_t, eqB_f, catOk_t, leC_t] at g23
    rw [br_iff]; refine ⟨fun g => nl (by simp only [br_iff, need_iff, andB_t, andB_f, orB_t, orB_f, notB_t, notB_f, leI_t, leI_f, ltI_t, ltI_f, eqI_t, eqI_f, leN_t, leN_f, eqN_t, eqN_f, eqS_t, eqS_f, eqB_t, eqB_f, catOk_t, leC_t] at g; omega), fun g10 => ?_⟩
    rw [br_iff]; refine ⟨fun g => nl (by simp only [br_iff, need_iff, andB_t, andB_f, orB_t, orB_f, notB_t, notB_f, leI_t, leI_f, ltI_t, ltI_f, eqI_t, eqI_f, leN_t, leN_f, eqN_t, eqN_f, eqS_t, eqS_f, eqB_t, eqB_f, catOk_t, leC_t] at g; omega), fun g13 => ?_⟩
    simp only [br_iff, need_iff, andB_t, andB_f, orB_t, orB_f, notB_t, notB_f, leI_t, leI_f, ltI_t, ltI_f, eqI_t, eqI_f, leN_t, leN_f, eqN_t, eqN_f, eqS_t, eqS_f, eqB_t, eqB_f, catOk_t, leC_t] at g10 g13
    rw [br_iff]; refine ⟨fun g => ?_, fun g4 => ?_⟩
    · have hc : c = 4 := by simpa only [br_iff, need_iff, andB_t, andB_f, orB_t, orB_f, notB_t, notB_f, leI_t, leI_f, ltI_t, ltI_f, eqI_t, eqI_f, leN_t, leN_f, eqN_t, eqN_f, eqS_t, eqS_f, eqB_t, eqB_f, catOk_t, leC_t] using g
      refine ⟨l, rfl, by omega, ?_⟩
      rw [br_iff]
      refine ⟨fun g => ?_, fun g => ?_⟩
      · exact f (l' := ⟨false, [], l ++ [t]⟩) (e := []) (by unfold typeF; rw [if_neg (by simp), if_neg (by omega), if_neg (by omega), if_pos hc, if_pos (by simp only [br_iff, need_iff, andB_t, andB_f, orB_t, orB_f, notB_t, notB_f, leI_t, leI_f, ltI_t, ltI_f, eqI_t, eqI_f, leN_t, leN_f, eqN_t, eqN_f, eqS_t, eqS_f, eqB_t, eqB_f, catOk_t, leC_t, Int.ofNat_eq_natCast] at g; show l.length < 1024; omega)])
      · exact f (l' := ⟨false, t, l⟩) (e := []) (by unfold typeF; rw [if_neg (by simp), if_neg (by omega), if_neg (by omega), if_pos hc, if_neg (by simp only [br_iff, need_iff, andB_t, andB_f, orB_t, orB_f, notB_t, notB_f, leI_t, leI_f, ltI_t, ltI_f, eqI_t, eqI_f, leN_t, leN_f, eqN_t, eqN_f, eqS_t, eqS_f, eqB_t, eqB_f, catOk_t, leC_t, Int.ofNat_eq_natCast] at g; show ¬ l.length < 1024; omega)])
    simp only [br_iff, need_iff, andB_t, andB_f, orB_t, orB_f, notB_t, notB_f, leI_t, leI_f, ltI_t, ltI_f, eqI_t, eqI_f, leN_t, leN_f, eqN_t, eqN_f, eqS_t, eqS_f, eqB_t, eqB_f, catOk_t, leC_t] at g4
    exact f (l' := ⟨false, t, l⟩) (e := []) (by unfold typeF; rw [if_neg (by simp), if_neg (by omega), if_neg (by omega), if_neg g4, if_neg (by rw [gp]; simp)])
  · exact h.elim
def rfdI (l : Line) (s : List UInt8) (x : rfdX) (m : Nat) : Prop := ∃ k : Nat, k + m = s.length ∧
  x = ⟨(feedF l (s.take k)).1.raw, (feedF l (s.take k)).1.text, strV (feedF l (s.take k)).1.ready, (feedF l (s.take k)).2, (k : Int)⟩
theorem rfd_con {n : Nat} (hn : 3 ≤ n) : ConOk (evalF Try.prog cfgN n) 10 feedCon := by
  intro vs bs K h
  unfold feedCon at h
  split at h
  · rename_i r t xs s
    obtain ⟨l, rfl, hR, hs, hK⟩ := h
    refine run_of (lp := lpOf [(3, rfdL fun _ _ x m => rfdI ⟨r, t, l⟩ s x m)]) (by omega) (ct := ctOf [(22, typeCon)]) (fun k hk => ctOf_ok (ctOf_cons (rty_con (by omega)) (ctOf_nil _))) ?_
    rw [rfd_vc]
    refine ⟨⟨s.length, by omega, 0, by omega, rfl⟩, ?_⟩
    rintro _ m ⟨k, hk, rfl⟩
    have hR' := feedF_right (s.take k) hR
    have hE := feedF_echo (s.take k) hR
    rw [List.length_take] at hE
    generalize hq : feedF ⟨r, t, l⟩ (s.take k) = q at hR' hE ⊢
    obtain ⟨⟨r', t', l'⟩, e⟩ := q
    dsimp only at hR' hE ⊢
    rw [br_iff]
    refine ⟨fun hlt => ?_, fun hge => ?_⟩
    · have hlt : k < s.length := by simp only [br_iff, need_iff, andB_t, andB_f, orB_t, orB_f, notB_t, notB_f, leI_t, leI_f, ltI_t, ltI_f, eqI_t, eqI_f, leN_t, leN_f, eqN_t, eqN_f, eqS_t, eqS_f, eqB_t, eqB_f, catOk_t, leC_t, lenS] at hlt; omega
      have hb : 0 ≤ atS s (k : Int) ∧ atS s (k : Int) ≤ 255 := by rw [atS_at hlt]; exact byte255 _
      have hstep := feedF_take (l := ⟨r, t, l⟩) hlt
      rw [hq] at hstep
      dsimp only at hstep
      have hE2 := typeF_echo hR' (atS s (k : Int))
      rw [need_iff]; refine ⟨by simp only [br_iff, need_iff, andB_t, andB_f, orB_t, orB_f, notB_t, notB_f, leI_t, leI_f, ltI_t, ltI_f, eqI_t, eqI_f, leN_t, leN_f, eqN_t, eqN_f, eqS_t, eqS_f, eqB_t, eqB_f, catOk_t, leC_t, lenS]; omega, l', rfl, hR', hb.1, hb.2, ?_⟩
      rw [need_iff]; refine ⟨by simp only [br_iff, need_iff, andB_t, andB_f, orB_t, orB_f, notB_t, notB_f, leI_t, leI_f, ltI_t, ltI_f, eqI_t, eqI_f, leN_t, leN_f, eqN_t, eqN_f, eqS_t, eqS_f, eqB_t, eqB_f, catOk_t, leC_t]; omega, by trivial, m - 1, by omega, k + 1, by omega, ?_⟩
      rw [hstep, addI_i64 (by omega) (by omega)]; rfl
    · have hk2 : k = s.length := by simp only [br_iff, need_iff, andB_t, andB_f, orB_t, orB_f, notB_t, notB_f, leI_t, leI_f, ltI_t, ltI_f, eqI_t, eqI_f, leN_t, leN_f, eqN_t, eqN_f, eqS_t, eqS_f, eqB_t, eqB_f, catOk_t, leC_t, lenS] at hge; omega
      subst hk2
      rw [List.take_length] at hq
      rw [hq] at hK
      exact hK
  · exact h.elim
end Go.Proofs.Ytdbbpibfejchfaa
