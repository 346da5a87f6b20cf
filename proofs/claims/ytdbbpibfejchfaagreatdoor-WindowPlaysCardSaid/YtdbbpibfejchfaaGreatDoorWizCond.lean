/- Windows: conditions of the reference's calls. -/
import Derived.Test.YtdbbpibfejchfaaGreatDoorWinLaw
namespace Go.Proofs.YtdbbpibfejchfaaGreatDoor
open Go.RowKit
set_option maxRecDepth 100000
set_option linter.unusedVariables false
set_option linter.unusedSimpArgs false
def withCon : Con := fun vs bs K => match vs, bs with
  | [.agg [.int .i64 n, .int .i64 f, .lst xs], .int .i64 i, .agg [.int .i64 id, .str lb, .bool r, .str t, .lst ys, .str tx, .int .i64 op, .bool g]], [] => ∃ l : List Window, ∃ j : Nat, ∃ ls : List (List UInt8), xs = windowV l ∧ i = (j : Int) ∧ j < l.length ∧ l.length ≤ 1000 ∧ ys = strV ls ∧
      K (.agg [.int .i64 n, .int .i64 f, .lst (windowV (l.set j ⟨id, lb, ⟨r, t, ls⟩, tx, op, g⟩))]) []
  | _, _ => False

def withoutCon : Con := fun vs bs K => match vs, bs with
  | [.agg [.int .i64 n, .int .i64 f, .lst xs], .int .i64 i], [] => ∃ l : List Window, ∃ j : Nat, xs = windowV l ∧ i = (j : Int) ∧ j < l.length ∧ l.length ≤ 1000 ∧ K (.agg [.int .i64 n, .int .i64 f, .lst (windowV (l.eraseIdx j))]) []
  | _, _ => False

def pieceCon : Con := fun vs bs K => match vs, bs with
  | [.str s, .int .i64 off, .int .i64 cnt], [] => 0 ≤ off ∧ 0 ≤ cnt ∧ K (.str ((s.drop off.toNat).take cnt.toNat)) []
  | _, _ => False

def rdelCon : Con := fun vs bs K => match vs, bs with
  | [.agg [.int .i64 n, .int .i64 f, .lst xs], .int .i64 i], [] => ∃ l : List Window, ∃ j : Nat, xs = windowV l ∧ i = (j : Int) ∧ j < l.length ∧ l.length ≤ 1000 ∧
      K (.agg [.int .i64 (deletedF ⟨n, f, l⟩ i).next, .int .i64 (deletedF ⟨n, f, l⟩ i).focus, .lst (windowV (deletedF ⟨n, f, l⟩ i).l)]) []
  | _, _ => False

def ctlK (k : Int) : Prop := k = 2 ∨ k = 5

def rctlCon : Con := fun vs bs K => match vs, bs with
  | [.agg [.int .i64 n, .int .i64 f, .lst xs], .int .i64 i, .int .i64 k, .str c], [] => ∃ l : List Window, ∃ j : Nat, xs = windowV l ∧ i = (j : Int) ∧ j < l.length ∧ rightW ⟨n, f, l⟩ = true ∧ ctlK k ∧
      K (.tup [.agg [.int .i64 (controlF ⟨n, f, l⟩ i k c).1.next, .int .i64 (controlF ⟨n, f, l⟩ i k c).1.focus, .lst (windowV (controlF ⟨n, f, l⟩ i k c).1.l)], .int .i64 (controlF ⟨n, f, l⟩ i k c).2]) []
  | _, _ => False

structure rddC where
  n : Int
  z0 : Int
  z1 : Int
  xs : List (List V)
  fo : Bool
structure rddX where
  f : Int
  i : Int
def rddSt (c : rddC) (x : rddX) : St := ⟨[(2, .ptr 0 0 0), (4, .ptr 1 0 0), (6, .bool c.fo), (7, .int .i64 x.i)], [(0, ⟨true, true, true, [[.int .i64 c.n, .int .i64 x.f, .lst c.xs]], 0⟩), (1, ⟨true, true, true, [[.int .i64 c.z0, .int .i64 c.z1, .nils]], 0⟩)]⟩
set_option maxHeartbeats 4000000 in
def rddUn (s : St) : Option (rddC × rddX) :=
  match s with
  | ⟨[(q0, .ptr q1 q2 q3), (q4, .ptr q5 q6 q7), (q8, .bool fo), (q9, .int .i64 i)], [(q10, ⟨true, true, true, [[.int .i64 n, .int .i64 f, .lst xs]], q11⟩), (q12, ⟨true, true, true, [[.int .i64 z0, .int .i64 z1, .nils]], q13⟩)]⟩ => bif Nat.beq q0 2 && Nat.beq q1 0 && Nat.beq q2 0 && Nat.beq q3 0 && Nat.beq q4 4 && Nat.beq q5 1 && Nat.beq q6 0 && Nat.beq q7 0 && Nat.beq q8 6 && Nat.beq q9 7 && Nat.beq q10 0 && Nat.beq q11 0 && Nat.beq q12 1 && Nat.beq q13 0 then some (⟨n, z0, z1, xs, fo⟩, ⟨f, i⟩) else none
  | _ => none
set_option maxHeartbeats 4000000 in
def rddL (inv : rddC → rddX → rddX → Nat → Prop) : LoopS where
  C := rddC
  X := rddX
  st := rddSt
  un := rddUn
  ok := by
    intro s c x h
    unfold rddUn at h
    split at h
    · simp only [Bool.cond_eq_ite] at h
      split at h
      · rename_i hg
        simp only [Bool.and_eq_true, Nat.beq_eq] at hg
        obtain ⟨⟨⟨⟨⟨⟨⟨⟨⟨⟨⟨⟨⟨rfl, rfl⟩, rfl⟩, rfl⟩, rfl⟩, rfl⟩, rfl⟩, rfl⟩, rfl⟩, rfl⟩, rfl⟩, rfl⟩, rfl⟩, rfl⟩ := hg
        cases h
        rfl
      · cases h
    · cases h
  inv := inv

theorem wth_vc (n f : Int) (xs : List (List V)) (i id : Int) (lb : List UInt8) (r : Bool) (t : List UInt8) (ys : List (List V)) (tx : List UInt8) (op : Int) (g : Bool) (K : V → List Bk → Prop) : vcF Tryz.prog cfgN (ctOf []) (lpOf []) 49 [.agg [.int .i64 n, .int .i64 f, .lst xs], .int .i64 i, .agg [.int .i64 id, .str lb, .bool r, .str t, .lst ys, .str tx, .int .i64 op, .bool g]] [] K = (
  need (headOkP 8 xs) (
  need (leN (xs.length * 104) 140737488355328) (
  need (andB (leI 0 i) (ltI i (Int.ofNat xs.length))) (
  need (okRow xs (0 + i.toNat) 8) (
  ∃ xs13 : List (List V), ((putAt xs (0 + i.toNat) 0 [V.int IntKind.i64 id, V.str lb, V.bool r, V.str t, V.lst ys, V.str tx, V.int IntKind.i64 op, V.bool g] : Option (List (List V))) = some xs13) ∧ (
  K (V.agg [V.int IntKind.i64 n, V.int IntKind.i64 f, V.lst (List.take xs.length (List.drop 0 xs13))]) [])))))) := by kernel_rfl

theorem wto_vc (n f : Int) (xs : List (List V)) (i : Int) (K : V → List Bk → Prop) : vcF Tryz.prog cfgN (ctOf []) (lpOf []) 61 [.agg [.int .i64 n, .int .i64 f, .lst xs], .int .i64 i] [] K = (
  need (headOkP 8 xs) (
  need (andB (leI 0 i) (leI i (lenL xs))) (
  need (headOkP 8 (cutL xs 0 i)) (
  need (leN ((cutL xs 0 i).length * 104) 140737488355328) (
  need (headOkP 8 xs) (
  need (andB (leI 0 (addI IntKind.i64 i 1)) (leI (addI IntKind.i64 i 1) (lenL xs))) (
  need (headOkP 8 (cutL xs (addI IntKind.i64 i 1) (lenL xs))) (
  need (headOkP 8 (cutL xs 0 i)) (
  br (leN ((cutL xs 0 i).length + (cutL xs (addI IntKind.i64 i 1) (lenL xs)).length) (cutL xs 0 i).length) (
    K (V.agg [V.int IntKind.i64 n, V.int IntKind.i64 f, V.lst (List.take ((cutL xs 0 i).length + (cutL xs (addI IntKind.i64 i 1) (lenL xs)).length) (List.drop 0 (List.take (0 + (cutL xs 0 i).length) (cutL xs 0 i) ++ cutL xs (addI IntKind.i64 i 1) (lenL xs) ++ List.drop (0 + (cutL xs 0 i).length + (cutL xs (addI IntKind.i64 i 1) (lenL xs)).length) (cutL xs 0 i))))]) []) (
    need (eqN (0 + (cutL xs 0 i).length) (cutL xs 0 i).length) (
    need (leN (((cutL xs 0 i).length + (cutL xs (addI IntKind.i64 i 1) (lenL xs)).length) * 104) 140737488355328) (
    K (V.agg [V.int IntKind.i64 n, V.int IntKind.i64 f, V.lst (List.take ((cutL xs 0 i).length + (cutL xs (addI IntKind.i64 i 1) (lenL xs)).length) (List.drop 0 (List.drop 0 (cutL xs 0 i) ++ cutL xs (addI IntKind.i64 i 1) (lenL xs))))]) [])))))))))))) := by kernel_rfl

theorem pc_vc (s : List UInt8) (off cnt : Int) (K : V → List Bk → Prop) : vcF Tryz.prog cfgN (ctOf []) (lpOf []) 55 [.str s, .int .i64 off, .int .i64 cnt] [] K = (
  br (leI (lenS s) off) (
    K (V.str []) []) (
    need (andB (leI 0 off) (leI off (lenS s))) (
    br (ltI cnt (lenS (cutS s off (lenS s)))) (
      need (andB (leI 0 cnt) (leI cnt (lenS (cutS s off (lenS s))))) (
      K (V.str (cutS (cutS s off (lenS s)) 0 cnt)) [])) (
      K (V.str (cutS s off (lenS s))) [])))) := by kernel_rfl

theorem dsp_vc (id : Int) (lb : List UInt8) (r : Bool) (t : List UInt8) (ys : List (List V)) (tx : List UInt8) (op : Int) (g : Bool) (s : List UInt8) (K : V → List Bk → Prop) : vcF Tryz.prog cfgN (ctOf []) (lpOf []) 50 [.agg [.int .i64 id, .str lb, .bool r, .str t, .lst ys, .str tx, .int .i64 op, .bool g], .str s] [] K = (
  need (catOk tx s) (
  br (ltI 65536 (lenS (catS tx s))) (
    need (andB (leI 0 (subI IntKind.i64 (lenS (catS tx s)) 65536)) (leI (subI IntKind.i64 (lenS (catS tx s)) 65536) (lenS (catS tx s)))) (
    K (V.agg [V.int IntKind.i64 id, V.str lb, V.bool r, V.str t, V.lst ys, V.str (cutS (catS tx s) (subI IntKind.i64 (lenS (catS tx s)) 65536) (lenS (catS tx s))), V.int IntKind.i64 op, V.bool g]) [])) (
    K (V.agg [V.int IntKind.i64 id, V.str lb, V.bool r, V.str t, V.lst ys, V.str (catS tx s), V.int IntKind.i64 op, V.bool g]) []))) := by kernel_rfl

theorem rcm_vc (s : List UInt8) (K : V → List Bk → Prop) : vcF Tryz.prog cfgN (ctOf []) (lpOf []) 59 [.str s] [] K = (
  br (ltI 0 (lenS s)) (
    need (andB (leI 0 (subI IntKind.i64 (lenS s) 1)) (ltI (subI IntKind.i64 (lenS s) 1) (lenS s))) (
    br (eqI (atS s (subI IntKind.i64 (lenS s) 1)) 10) (
      need (andB (leI 0 (subI IntKind.i64 (lenS s) 1)) (leI (subI IntKind.i64 (lenS s) 1) (lenS s))) (
      K (V.str (cutS s 0 (subI IntKind.i64 (lenS s) 1))) [])) (
      K (V.str s) []))) (
    K (V.str s) [])) := by kernel_rfl

theorem rpm_vc (m : Int) (K : V → List Bk → Prop) : vcF Tryz.prog cfgN (ctOf [(80, inlL Tryz.prog cfgN (ctOf []) (lpOf [(2, unrL 5)]) 80)]) (lpOf []) 52 [.int .i64 m] [] K = (
  br (eqI (subI IntKind.i64 (m.tmod 1000) 0) 0) (
    br (notB (eqI m (m.tmod 1000))) (
      K (V.tup [V.int IntKind.i64 0, V.int IntKind.i64 12]) []) (
      K (V.tup [V.int IntKind.i64 4, V.int IntKind.i64 0]) [])) (
    br (eqI (subI IntKind.i64 (m.tmod 1000) 0) 64) (
      br (notB (eqI m (m.tmod 1000))) (
        K (V.tup [V.int IntKind.i64 0, V.int IntKind.i64 12]) []) (
        K (V.tup [V.int IntKind.i64 4, V.int IntKind.i64 0]) [])) (
      br (eqI (subI IntKind.i64 (m.tmod 1000) 0) 16) (
        br (notB (eqI m (m.tmod 1000))) (
          K (V.tup [V.int IntKind.i64 0, V.int IntKind.i64 12]) []) (
          K (V.tup [V.int IntKind.i64 6, V.int IntKind.i64 0]) [])) (
        br (eqI (subI IntKind.i64 (m.tmod 1000) 0) 80) (
          br (notB (eqI m (m.tmod 1000))) (
            K (V.tup [V.int IntKind.i64 0, V.int IntKind.i64 12]) []) (
            K (V.tup [V.int IntKind.i64 6, V.int IntKind.i64 0]) [])) (
          br (eqI (subI IntKind.i64 (m.tmod 1000) 1) 0) (
            br (notB (eqI m (m.tmod 1000))) (
              K (V.tup [V.int IntKind.i64 0, V.int IntKind.i64 12]) []) (
              K (V.tup [V.int IntKind.i64 2, V.int IntKind.i64 0]) [])) (
            br (eqI (subI IntKind.i64 (m.tmod 1000) 1) 64) (
              br (notB (eqI m (m.tmod 1000))) (
                K (V.tup [V.int IntKind.i64 0, V.int IntKind.i64 12]) []) (
                K (V.tup [V.int IntKind.i64 2, V.int IntKind.i64 0]) [])) (
              br (eqI (subI IntKind.i64 (m.tmod 1000) 1) 16) (
                br (notB (eqI m (m.tmod 1000))) (
                  K (V.tup [V.int IntKind.i64 0, V.int IntKind.i64 12]) []) (
                  K (V.tup [V.int IntKind.i64 2, V.int IntKind.i64 0]) [])) (
                br (eqI (subI IntKind.i64 (m.tmod 1000) 1) 80) (
                  br (notB (eqI m (m.tmod 1000))) (
                    K (V.tup [V.int IntKind.i64 0, V.int IntKind.i64 12]) []) (
                    K (V.tup [V.int IntKind.i64 2, V.int IntKind.i64 0]) [])) (
                  br (eqI (subI IntKind.i64 (m.tmod 1000) 2) 0) (
                    br (notB (eqI m (m.tmod 1000))) (
                      K (V.tup [V.int IntKind.i64 0, V.int IntKind.i64 12]) []) (
                      K (V.tup [V.int IntKind.i64 6, V.int IntKind.i64 0]) [])) (
                    br (eqI (subI IntKind.i64 (m.tmod 1000) 2) 64) (
                      br (notB (eqI m (m.tmod 1000))) (
                        K (V.tup [V.int IntKind.i64 0, V.int IntKind.i64 12]) []) (
                        K (V.tup [V.int IntKind.i64 6, V.int IntKind.i64 0]) [])) (
                      br (eqI (subI IntKind.i64 (m.tmod 1000) 2) 16) (
                        br (notB (eqI m (m.tmod 1000))) (
                          K (V.tup [V.int IntKind.i64 0, V.int IntKind.i64 12]) []) (
                          K (V.tup [V.int IntKind.i64 6, V.int IntKind.i64 0]) [])) (
                        br (eqI (subI IntKind.i64 (m.tmod 1000) 2) 80) (
                          br (notB (eqI m (m.tmod 1000))) (
                            K (V.tup [V.int IntKind.i64 0, V.int IntKind.i64 12]) []) (
                            K (V.tup [V.int IntKind.i64 6, V.int IntKind.i64 0]) [])) (
                          br (eqI (subI IntKind.i64 (m.tmod 1000) 3) 0) (
                            br (notB (eqI m (m.tmod 1000))) (
                              K (V.tup [V.int IntKind.i64 0, V.int IntKind.i64 12]) []) (
                              K (V.tup [V.int IntKind.i64 1, V.int IntKind.i64 0]) [])) (
                            br (eqI (subI IntKind.i64 (m.tmod 1000) 3) 64) (
                              br (notB (eqI m (m.tmod 1000))) (
                                K (V.tup [V.int IntKind.i64 0, V.int IntKind.i64 12]) []) (
                                K (V.tup [V.int IntKind.i64 1, V.int IntKind.i64 0]) [])) (
                              br (eqI (subI IntKind.i64 (m.tmod 1000) 3) 16) (
                                br (notB (eqI m (m.tmod 1000))) (
                                  K (V.tup [V.int IntKind.i64 0, V.int IntKind.i64 12]) []) (
                                  K (V.tup [V.int IntKind.i64 3, V.int IntKind.i64 0]) [])) (
                                br (eqI (subI IntKind.i64 (m.tmod 1000) 3) 80) (
                                  br (notB (eqI m (m.tmod 1000))) (
                                    K (V.tup [V.int IntKind.i64 0, V.int IntKind.i64 12]) []) (
                                    K (V.tup [V.int IntKind.i64 3, V.int IntKind.i64 0]) [])) (
                                  K (V.tup [V.int IntKind.i64 0, V.int IntKind.i64 12]) []))))))))))))))))) := by kernel_rfl

theorem rmk_vc (n f : Int) (xs : List (List V)) (s : List UInt8) (K : V → List Bk → Prop) : vcF Tryz.prog cfgN (ctOf []) (lpOf []) 21 [.agg [.int .i64 n, .int .i64 f, .lst xs], .str s] [] K = (
  br (ltI 64 (lenS s)) (
    K (V.tup [V.agg [V.int IntKind.i64 n, V.int IntKind.i64 f, V.lst xs], V.int IntKind.i64 0, V.int IntKind.i64 4]) []) (
    br (leI 16 (lenL xs)) (
      K (V.tup [V.agg [V.int IntKind.i64 n, V.int IntKind.i64 f, V.lst xs], V.int IntKind.i64 0, V.int IntKind.i64 22]) []) (
      br (ltI 1048575 n) (
        K (V.tup [V.agg [V.int IntKind.i64 n, V.int IntKind.i64 f, V.lst xs], V.int IntKind.i64 0, V.int IntKind.i64 22]) []) (
        need (headOkP 8 xs) (
        need (leN (xs.length * 104) 140737488355328) (
        need (headOkP 8 xs) (
        br (leN (xs.length + 1) xs.length) (
          K (V.tup [V.agg [V.int IntKind.i64 (addI IntKind.i64 n 1), V.int IntKind.i64 n, V.lst (List.take (xs.length + 1) (List.drop 0 (List.take (0 + xs.length) xs ++ [[V.int IntKind.i64 n, V.str s, V.bool false, V.str [], V.lst [], V.str [], V.int IntKind.i64 0, V.bool false]] ++ List.drop (0 + xs.length + 1) xs)))], V.int IntKind.i64 n, V.int IntKind.i64 0]) []) (
          need (eqN (0 + xs.length) xs.length) (
          need (leN ((xs.length + 1) * 104) 140737488355328) (
          K (V.tup [V.agg [V.int IntKind.i64 (addI IntKind.i64 n 1), V.int IntKind.i64 n, V.lst (List.take (xs.length + 1) (List.drop 0 (List.drop 0 xs ++ [[V.int IntKind.i64 n, V.str s, V.bool false, V.str [], V.lst [], V.str [], V.int IntKind.i64 0, V.bool false]])))], V.int IntKind.i64 n, V.int IntKind.i64 0]) [])))))))))) := by kernel_rfl

theorem rfo_vc (n f : Int) (xs : List (List V)) (id : Int) (K : V → List Bk → Prop) : vcF Tryz.prog cfgN (ctOf [(46, seenCon)]) (lpOf []) 22 [.agg [.int .i64 n, .int .i64 f, .lst xs], .int .i64 id] [] K = (
  ∃ l5 : List Window, ((xs : List (List V)) = windowV l5) ∧ (
  (((l5.length : Nat) ≤ 100000)) ∧ (
  br (notB (seenW l5 id)) (
    K (V.tup [V.agg [V.int IntKind.i64 n, V.int IntKind.i64 f, V.lst xs], V.int IntKind.i64 8]) []) (
    K (V.tup [V.agg [V.int IntKind.i64 n, V.int IntKind.i64 id, V.lst xs], V.int IntKind.i64 0]) [])))) := by kernel_rfl

theorem rtp_vc (n f : Int) (xs : List (List V)) (s : List UInt8) (K : V → List Bk → Prop) : vcF Tryz.prog cfgN (ctOf [(47, idxCon), (48, feedCon), (50, showCon), (49, withCon)]) (lpOf []) 23 [.agg [.int .i64 n, .int .i64 f, .lst xs], .str s] [] K = (
  ∃ l5 : List Window, ((xs : List (List V)) = windowV l5) ∧ (
  (((l5.length : Nat) ≤ 100000)) ∧ (
  br (ltI (idxW l5 f) 0) (
    K (V.agg [V.int IntKind.i64 n, V.int IntKind.i64 f, V.lst xs]) []) (
    need (andB (leI 0 (idxW l5 f)) (ltI (idxW l5 f) (lenL xs))) (
    need (okRow xs (idxW l5 f).toNat 8) (
    ∃ n6 : Int, ∃ s7 : List UInt8, ∃ b8 : Bool, ∃ s9 : List UInt8, ∃ xs10 : List (List V), ∃ s11 : List UInt8, ∃ n12 : Int, ∃ b13 : Bool, ((sub (rowAt xs (idxW l5 f)) 0 8 : Option (List V)) = some [V.int IntKind.i64 n6, V.str s7, V.bool b8, V.str s9, V.lst xs10, V.str s11, V.int IntKind.i64 n12, V.bool b13]) ∧ (
    ∃ l14 : List (List UInt8), ((xs10 : List (List V)) = strV l14) ∧ (
    ((rightL (Line.mk b8 s9 l14) : Bool) = true) ∧ (
    (((s.length : Nat) ≤ 100000)) ∧ (
    (((s11.length + (feedF (Line.mk b8 s9 l14) s).2.length : Nat) ≤ 4611686018427387904)) ∧ (
    ∃ l15 : List Window, ∃ j16 : Nat, ∃ ls17 : List (List UInt8), ((xs : List (List V)) = windowV l15) ∧ (
    ((idxW l5 f : Int) = Int.ofNat j16) ∧ (
    (((j16 : Nat) < l15.length)) ∧ (
    (((l15.length : Nat) ≤ 1000)) ∧ (
    ((strV (feedF (Line.mk b8 s9 l14) s).fst.3 : List (List V)) = strV ls17) ∧ (
    K (V.agg [V.int IntKind.i64 n, V.int IntKind.i64 f, V.lst (windowV (l15.set j16 (Window.mk n6 s7 (Line.mk (feedF (Line.mk b8 s9 l14) s).fst.raw (feedF (Line.mk b8 s9 l14) s).fst.text ls17) (showT s11 (feedF (Line.mk b8 s9 l14) s).snd) n12 b13)))]) [])))))))))))))))) := by kernel_rfl

def rop_vc_2 (n f : Int) (xs : List (List V)) (id m : Int) (K : V → List Bk → Prop) : Prop :=
  (
              br (leI 64 m) (
                K (V.tup [V.agg [V.int IntKind.i64 n, V.int IntKind.i64 f, V.lst xs], V.int IntKind.i64 11]) []) (
                br (ltI ((quoI IntKind.i64 ((modeF id).tmod 8) 4).tmod 2) ((quoI IntKind.i64 (permF m).1 4).tmod 2)) (
                  K (V.tup [V.agg [V.int IntKind.i64 n, V.int IntKind.i64 f, V.lst xs], V.int IntKind.i64 11]) []) (
                  br (ltI ((quoI IntKind.i64 ((modeF id).tmod 8) 2).tmod 2) ((quoI IntKind.i64 (permF m).1 2).tmod 2)) (
                    K (V.tup [V.agg [V.int IntKind.i64 n, V.int IntKind.i64 f, V.lst xs], V.int IntKind.i64 11]) []) (
                    br (ltI (((modeF id).tmod 8).tmod 2) ((permF m).1.tmod 2)) (
                      K (V.tup [V.agg [V.int IntKind.i64 n, V.int IntKind.i64 f, V.lst xs], V.int IntKind.i64 11]) []) (
                      br (dirB id) (
                        K (V.tup [V.agg [V.int IntKind.i64 n, V.int IntKind.i64 f, V.lst xs], V.int IntKind.i64 0]) []) (
                        br (eqI id 2) (
                          K (V.tup [V.agg [V.int IntKind.i64 n, V.int IntKind.i64 f, V.lst xs], V.int IntKind.i64 0]) []) (
                          ∃ l8 : List Window, ((xs : List (List V)) = windowV l8) ∧ (
                          (((l8.length : Nat) ≤ 100000)) ∧ (
                          need (andB (leI 0 (idxW l8 (quoI IntKind.i64 id 16))) (ltI (idxW l8 (quoI IntKind.i64 id 16)) (lenL xs))) (
                          need (okRow xs (idxW l8 (quoI IntKind.i64 id 16)).toNat 8) (
                          ∃ n9 : Int, ∃ s10 : List UInt8, ∃ b11 : Bool, ∃ s12 : List UInt8, ∃ xs13 : List (List V), ∃ s14 : List UInt8, ∃ n15 : Int, ∃ b16 : Bool, ((sub (rowAt xs (idxW l8 (quoI IntKind.i64 id 16))) 0 8 : Option (List V)) = some [V.int IntKind.i64 n9, V.str s10, V.bool b11, V.str s12, V.lst xs13, V.str s14, V.int IntKind.i64 n15, V.bool b16]) ∧ (
                          br (leI 9007199254740991 n15) (
                            K (V.tup [V.agg [V.int IntKind.i64 n, V.int IntKind.i64 f, V.lst xs], V.int IntKind.i64 22]) []) (
                            ∃ l17 : List Window, ∃ j18 : Nat, ∃ ls19 : List (List UInt8), ((xs : List (List V)) = windowV l17) ∧ (
                            ((idxW l8 (quoI IntKind.i64 id 16) : Int) = Int.ofNat j18) ∧ (
                            (((j18 : Nat) < l17.length)) ∧ (
                            (((l17.length : Nat) ≤ 1000)) ∧ (
                            ((xs13 : List (List V)) = strV ls19) ∧ (
                            K (V.tup [V.agg [V.int IntKind.i64 n, V.int IntKind.i64 f, V.lst (windowV (l17.set j18 (Window.mk n9 s10 (Line.mk b11 s12 ls19) s14 (addI IntKind.i64 n15 1) b16)))], V.int IntKind.i64 0]) []))))))))))))))))))
def rop_vc_1 (n f : Int) (xs : List (List V)) (id m : Int) (K : V → List Bk → Prop) : Prop :=
  (
        (((m : Int) ≤ 9223372036854775807)) ∧ (
        (((-9223372036854775808 : Int) ≤ m)) ∧ (
        (((0 : Int) ≤ id)) ∧ (
        br (notB (eqI (permF m).2 0)) (
          K (V.tup [V.agg [V.int IntKind.i64 n, V.int IntKind.i64 f, V.lst xs], V.int IntKind.i64 (permF m).2]) []) (
          br (dirB id) (
            br (notB (eqI m 0)) (
              K (V.tup [V.agg [V.int IntKind.i64 n, V.int IntKind.i64 f, V.lst xs], V.int IntKind.i64 10]) []) (rop_vc_2 n f xs id m K)) (rop_vc_2 n f xs id m K))))))
theorem rop_vc (n f : Int) (xs : List (List V)) (id m : Int) (K : V → List Bk → Prop) : vcF Tryz.prog cfgN (ctOf [(51, exCon), (46, seenCon), (52, permCon), (53, modeCon), (54, dirCon), (47, idxCon), (49, withCon)]) (lpOf []) 24 [.agg [.int .i64 n, .int .i64 f, .lst xs], .int .i64 id, .int .i64 m] [] K = (
  ∃ l6 : List Window, ((xs : List (List V)) = windowV l6) ∧ (
  (((l6.length : Nat) ≤ 100000)) ∧ (
  (((id : Int) ≤ 9223372036854775807)) ∧ (
  br (notB (exB l6 id)) (
    K (V.tup [V.agg [V.int IntKind.i64 n, V.int IntKind.i64 f, V.lst xs], V.int IntKind.i64 8]) []) (
    br (leI 16 id) (
      ∃ l7 : List Window, ((xs : List (List V)) = windowV l7) ∧ (
      (((l7.length : Nat) ≤ 100000)) ∧ (
      br (notB (seenW l7 (quoI IntKind.i64 id 16))) (
        K (V.tup [V.agg [V.int IntKind.i64 n, V.int IntKind.i64 f, V.lst xs], V.int IntKind.i64 8]) []) (rop_vc_1 n f xs id m K)))) (rop_vc_1 n f xs id m K)))))) := by kernel_rfl

theorem rre_vc (n f : Int) (xs : List (List V)) (id off cnt : Int) (K : V → List Bk → Prop) : vcF Tryz.prog cfgN (ctOf [(51, exCon), (54, dirCon), (56, tenCon), (55, pieceCon), (47, idxCon), (57, readCon), (49, withCon)]) (lpOf []) 25 [.agg [.int .i64 n, .int .i64 f, .lst xs], .int .i64 id, .int .i64 off, .int .i64 cnt] [] K = (
  ∃ l7 : List Window, ((xs : List (List V)) = windowV l7) ∧ (
  (((l7.length : Nat) ≤ 100000)) ∧ (
  (((id : Int) ≤ 9223372036854775807)) ∧ (
  br (notB (exB l7 id)) (
    K (V.tup [V.agg [V.int IntKind.i64 n, V.int IntKind.i64 f, V.lst xs], V.str [], V.bool false, V.int IntKind.i64 8]) []) (
    br (dirB id) (
      K (V.tup [V.agg [V.int IntKind.i64 n, V.int IntKind.i64 f, V.lst xs], V.str [], V.bool false, V.int IntKind.i64 10]) []) (
      br (ltI off 0) (
        K (V.tup [V.agg [V.int IntKind.i64 n, V.int IntKind.i64 f, V.lst xs], V.str [], V.bool false, V.int IntKind.i64 1]) []) (
        br (ltI cnt 0) (
          K (V.tup [V.agg [V.int IntKind.i64 n, V.int IntKind.i64 f, V.lst xs], V.str [], V.bool false, V.int IntKind.i64 1]) []) (
          br (eqI id 2) (
            (((-9223372036854775808 : Int) ≤ f)) ∧ (
            (((f : Int) ≤ 9223372036854775807)) ∧ (
            (((0 : Int) ≤ off)) ∧ (
            (((0 : Int) ≤ minI cnt 65536)) ∧ (
            K (V.tup [V.agg [V.int IntKind.i64 n, V.int IntKind.i64 f, V.lst xs], V.str (List.take (minI cnt 65536).toNat (List.drop off.toNat (textN 10 f))), V.bool false, V.int IntKind.i64 0]) []))))) (
            ∃ l8 : List Window, ((xs : List (List V)) = windowV l8) ∧ (
            (((l8.length : Nat) ≤ 100000)) ∧ (
            need (andB (leI 0 (idxW l8 (quoI IntKind.i64 id 16))) (ltI (idxW l8 (quoI IntKind.i64 id 16)) (lenL xs))) (
            need (okRow xs (idxW l8 (quoI IntKind.i64 id 16)).toNat 8) (
            ∃ n9 : Int, ∃ s10 : List UInt8, ∃ b11 : Bool, ∃ s12 : List UInt8, ∃ xs13 : List (List V), ∃ s14 : List UInt8, ∃ n15 : Int, ∃ b16 : Bool, ((sub (rowAt xs (idxW l8 (quoI IntKind.i64 id 16))) 0 8 : Option (List V)) = some [V.int IntKind.i64 n9, V.str s10, V.bool b11, V.str s12, V.lst xs13, V.str s14, V.int IntKind.i64 n15, V.bool b16]) ∧ (
            br (eqI (id.tmod 16) 3) (
              (((0 : Int) ≤ off)) ∧ (
              (((0 : Int) ≤ minI cnt 65536)) ∧ (
              K (V.tup [V.agg [V.int IntKind.i64 n, V.int IntKind.i64 f, V.lst xs], V.str (List.take (minI cnt 65536).toNat (List.drop off.toNat s10)), V.bool false, V.int IntKind.i64 0]) []))) (
              br (eqI (id.tmod 16) 4) (
                (((0 : Int) ≤ off)) ∧ (
                (((0 : Int) ≤ minI cnt 65536)) ∧ (
                K (V.tup [V.agg [V.int IntKind.i64 n, V.int IntKind.i64 f, V.lst xs], V.str (List.take (minI cnt 65536).toNat (List.drop off.toNat s14)), V.bool false, V.int IntKind.i64 0]) []))) (
                br (eqI (id.tmod 16) 2) (
                  K (V.tup [V.agg [V.int IntKind.i64 n, V.int IntKind.i64 f, V.lst xs], V.str [], V.bool false, V.int IntKind.i64 0]) []) (
                  br (eqI (id.tmod 16) 5) (
                    K (V.tup [V.agg [V.int IntKind.i64 n, V.int IntKind.i64 f, V.lst xs], V.str [], V.bool false, V.int IntKind.i64 0]) []) (
                    ∃ l17 : List (List UInt8), ((xs13 : List (List V)) = strV l17) ∧ (
                    ((rightL (Line.mk b11 s12 l17) : Bool) = true) ∧ (
                    br ((readF (Line.mk b11 s12 l17) (minI cnt 65536)).snd.2) (
                      K (V.tup [V.agg [V.int IntKind.i64 n, V.int IntKind.i64 f, V.lst xs], V.str [], V.bool (notB b16), V.int IntKind.i64 0]) []) (
                      ∃ l18 : List Window, ∃ j19 : Nat, ∃ ls20 : List (List UInt8), ((xs : List (List V)) = windowV l18) ∧ (
                      ((idxW l8 (quoI IntKind.i64 id 16) : Int) = Int.ofNat j19) ∧ (
                      (((j19 : Nat) < l18.length)) ∧ (
                      (((l18.length : Nat) ≤ 1000)) ∧ (
                      ((strV (readF (Line.mk b11 s12 l17) (minI cnt 65536)).fst.3 : List (List V)) = strV ls20) ∧ (
                      K (V.tup [V.agg [V.int IntKind.i64 n, V.int IntKind.i64 f, V.lst (windowV (l18.set j19 (Window.mk n9 s10 (Line.mk (readF (Line.mk b11 s12 l17) (minI cnt 65536)).fst.raw (readF (Line.mk b11 s12 l17) (minI cnt 65536)).fst.text ls20) s14 n15 b16)))], V.str (readF (Line.mk b11 s12 l17) (minI cnt 65536)).snd.1, V.bool false, V.int IntKind.i64 0]) [])))))))))))))))))))))))))) := by kernel_rfl

theorem rde_vc (n f : Int) (xs : List (List V)) (i : Int) (I : rddC → rddX → rddX → Nat → Prop) (K : V → List Bk → Prop) : vcF Tryz.prog cfgN (ctOf [(49, withCon), (61, withoutCon)]) (lpOf [(10, rddL I)]) 85 [.agg [.int .i64 n, .int .i64 f, .lst xs], .int .i64 i] [] K = (
  need (andB (leI 0 i) (ltI i (lenL xs))) (
  need (okRow xs i.toNat 8) (
  ∃ n6 : Int, ∃ s7 : List UInt8, ∃ b8 : Bool, ∃ s9 : List UInt8, ∃ xs10 : List (List V), ∃ s11 : List UInt8, ∃ n12 : Int, ∃ b13 : Bool, ((sub (rowAt xs i) 0 8 : Option (List V)) = some [V.int IntKind.i64 n6, V.str s7, V.bool b8, V.str s9, V.lst xs10, V.str s11, V.int IntKind.i64 n12, V.bool b13]) ∧ (
  br (ltI 0 n12) (
    ∃ l14 : List Window, ∃ j15 : Nat, ∃ ls16 : List (List UInt8), ((xs : List (List V)) = windowV l14) ∧ (
    ((i : Int) = Int.ofNat j15) ∧ (
    (((j15 : Nat) < l14.length)) ∧ (
    (((l14.length : Nat) ≤ 1000)) ∧ (
    ((xs10 : List (List V)) = strV ls16) ∧ (
    br (eqI f n6) (
      (∃ m17 : Nat, (((m17 : Nat) < 18446744073709551616)) ∧ (
      I (rddC.mk n 0 0 (windowV (l14.set j15 (Window.mk n6 s7 (Line.mk b8 s9 ls16) s11 n12 true))) (eqI f n6)) (rddX.mk 0 0) (rddX.mk 0 0) m17)) ∧ (
      ∀ x17 : (rddL I).X, ∀ m18 : Nat, (I (rddC.mk n 0 0 (windowV (l14.set j15 (Window.mk n6 s7 (Line.mk b8 s9 ls16) s11 n12 true))) (eqI f n6)) (rddX.mk 0 0) x17 m18) → (
      br (ltI x17.2 (lenL (windowV (l14.set j15 (Window.mk n6 s7 (Line.mk b8 s9 ls16) s11 n12 true))))) (
        br (eqI f n6) (
          need (andB (leI 0 x17.2) (ltI x17.2 (lenL (windowV (l14.set j15 (Window.mk n6 s7 (Line.mk b8 s9 ls16) s11 n12 true)))))) (
          need (okRow (windowV (l14.set j15 (Window.mk n6 s7 (Line.mk b8 s9 ls16) s11 n12 true))) x17.2.toNat 8) (
          ∃ b19 : Bool, ((sub (rowAt (windowV (l14.set j15 (Window.mk n6 s7 (Line.mk b8 s9 ls16) s11 n12 true))) x17.2) 7 1 : Option (List V)) = some [V.bool b19]) ∧ (
          br (notB b19) (
            need (andB (leI 0 x17.2) (ltI x17.2 (lenL (windowV (l14.set j15 (Window.mk n6 s7 (Line.mk b8 s9 ls16) s11 n12 true)))))) (
            need (okRow (windowV (l14.set j15 (Window.mk n6 s7 (Line.mk b8 s9 ls16) s11 n12 true))) x17.2.toNat 8) (
            ∃ n20 : Int, ((sub (rowAt (windowV (l14.set j15 (Window.mk n6 s7 (Line.mk b8 s9 ls16) s11 n12 true))) x17.2) 0 1 : Option (List V)) = some [V.int IntKind.i64 n20]) ∧ (
            ((rddC.mk n (Int.ofNat 0) (Int.ofNat 0) (windowV (l14.set j15 (Window.mk n6 s7 (Line.mk b8 s9 ls16) s11 n12 true))) (eqI f n6) : (rddL I).C) = rddC.mk n 0 0 (windowV (l14.set j15 (Window.mk n6 s7 (Line.mk b8 s9 ls16) s11 n12 true))) (eqI f n6)) ∧ (
            ∃ m'21 : Nat, (((m'21 : Nat) < m18)) ∧ (
            I (rddC.mk n 0 0 (windowV (l14.set j15 (Window.mk n6 s7 (Line.mk b8 s9 ls16) s11 n12 true))) (eqI f n6)) (rddX.mk 0 0) (rddX.mk n20 (addI IntKind.i64 x17.2 1)) m'21)))))) (
            ((rddC.mk n (Int.ofNat 0) (Int.ofNat 0) (windowV (l14.set j15 (Window.mk n6 s7 (Line.mk b8 s9 ls16) s11 n12 true))) (eqI f n6) : (rddL I).C) = rddC.mk n 0 0 (windowV (l14.set j15 (Window.mk n6 s7 (Line.mk b8 s9 ls16) s11 n12 true))) (eqI f n6)) ∧ (
            ∃ m'20 : Nat, (((m'20 : Nat) < m18)) ∧ (
            I (rddC.mk n 0 0 (windowV (l14.set j15 (Window.mk n6 s7 (Line.mk b8 s9 ls16) s11 n12 true))) (eqI f n6)) (rddX.mk 0 0) (rddX.mk x17.1 (addI IntKind.i64 x17.2 1)) m'20))))))) (
          K (V.agg [V.int IntKind.i64 n, V.int IntKind.i64 x17.1, V.lst (windowV (l14.set j15 (Window.mk n6 s7 (Line.mk b8 s9 ls16) s11 n12 true)))]) [])) (
        K (V.agg [V.int IntKind.i64 n, V.int IntKind.i64 x17.1, V.lst (windowV (l14.set j15 (Window.mk n6 s7 (Line.mk b8 s9 ls16) s11 n12 true)))]) [])))) (
      (∃ m17 : Nat, (((m17 : Nat) < 18446744073709551616)) ∧ (
      I (rddC.mk n 0 0 (windowV (l14.set j15 (Window.mk n6 s7 (Line.mk b8 s9 ls16) s11 n12 true))) (eqI f n6)) (rddX.mk f 0) (rddX.mk f 0) m17)) ∧ (
      ∀ x17 : (rddL I).X, ∀ m18 : Nat, (I (rddC.mk n 0 0 (windowV (l14.set j15 (Window.mk n6 s7 (Line.mk b8 s9 ls16) s11 n12 true))) (eqI f n6)) (rddX.mk f 0) x17 m18) → (
      br (ltI x17.2 (lenL (windowV (l14.set j15 (Window.mk n6 s7 (Line.mk b8 s9 ls16) s11 n12 true))))) (
        br (eqI f n6) (
          need (andB (leI 0 x17.2) (ltI x17.2 (lenL (windowV (l14.set j15 (Window.mk n6 s7 (Line.mk b8 s9 ls16) s11 n12 true)))))) (
          need (okRow (windowV (l14.set j15 (Window.mk n6 s7 (Line.mk b8 s9 ls16) s11 n12 true))) x17.2.toNat 8) (
          ∃ b19 : Bool, ((sub (rowAt (windowV (l14.set j15 (Window.mk n6 s7 (Line.mk b8 s9 ls16) s11 n12 true))) x17.2) 7 1 : Option (List V)) = some [V.bool b19]) ∧ (
          br (notB b19) (
            need (andB (leI 0 x17.2) (ltI x17.2 (lenL (windowV (l14.set j15 (Window.mk n6 s7 (Line.mk b8 s9 ls16) s11 n12 true)))))) (
            need (okRow (windowV (l14.set j15 (Window.mk n6 s7 (Line.mk b8 s9 ls16) s11 n12 true))) x17.2.toNat 8) (
            ∃ n20 : Int, ((sub (rowAt (windowV (l14.set j15 (Window.mk n6 s7 (Line.mk b8 s9 ls16) s11 n12 true))) x17.2) 0 1 : Option (List V)) = some [V.int IntKind.i64 n20]) ∧ (
            ((rddC.mk n (Int.ofNat 0) (Int.ofNat 0) (windowV (l14.set j15 (Window.mk n6 s7 (Line.mk b8 s9 ls16) s11 n12 true))) (eqI f n6) : (rddL I).C) = rddC.mk n 0 0 (windowV (l14.set j15 (Window.mk n6 s7 (Line.mk b8 s9 ls16) s11 n12 true))) (eqI f n6)) ∧ (
            ∃ m'21 : Nat, (((m'21 : Nat) < m18)) ∧ (
            I (rddC.mk n 0 0 (windowV (l14.set j15 (Window.mk n6 s7 (Line.mk b8 s9 ls16) s11 n12 true))) (eqI f n6)) (rddX.mk f 0) (rddX.mk n20 (addI IntKind.i64 x17.2 1)) m'21)))))) (
            ((rddC.mk n (Int.ofNat 0) (Int.ofNat 0) (windowV (l14.set j15 (Window.mk n6 s7 (Line.mk b8 s9 ls16) s11 n12 true))) (eqI f n6) : (rddL I).C) = rddC.mk n 0 0 (windowV (l14.set j15 (Window.mk n6 s7 (Line.mk b8 s9 ls16) s11 n12 true))) (eqI f n6)) ∧ (
            ∃ m'20 : Nat, (((m'20 : Nat) < m18)) ∧ (
            I (rddC.mk n 0 0 (windowV (l14.set j15 (Window.mk n6 s7 (Line.mk b8 s9 ls16) s11 n12 true))) (eqI f n6)) (rddX.mk f 0) (rddX.mk x17.1 (addI IntKind.i64 x17.2 1)) m'20))))))) (
          K (V.agg [V.int IntKind.i64 n, V.int IntKind.i64 x17.1, V.lst (windowV (l14.set j15 (Window.mk n6 s7 (Line.mk b8 s9 ls16) s11 n12 true)))]) [])) (
        K (V.agg [V.int IntKind.i64 n, V.int IntKind.i64 x17.1, V.lst (windowV (l14.set j15 (Window.mk n6 s7 (Line.mk b8 s9 ls16) s11 n12 true)))]) [])))))))))) (
    ∃ l14 : List Window, ∃ j15 : Nat, ((xs : List (List V)) = windowV l14) ∧ (
    ((i : Int) = Int.ofNat j15) ∧ (
    (((j15 : Nat) < l14.length)) ∧ (
    (((l14.length : Nat) ≤ 1000)) ∧ (
    br (eqI f n6) (
      (∃ m16 : Nat, (((m16 : Nat) < 18446744073709551616)) ∧ (
      I (rddC.mk n 0 0 (windowV (l14.eraseIdx j15)) (eqI f n6)) (rddX.mk 0 0) (rddX.mk 0 0) m16)) ∧ (
      ∀ x16 : (rddL I).X, ∀ m17 : Nat, (I (rddC.mk n 0 0 (windowV (l14.eraseIdx j15)) (eqI f n6)) (rddX.mk 0 0) x16 m17) → (
      br (ltI x16.2 (lenL (windowV (l14.eraseIdx j15)))) (
        br (eqI f n6) (
          need (andB (leI 0 x16.2) (ltI x16.2 (lenL (windowV (l14.eraseIdx j15))))) (
          need (okRow (windowV (l14.eraseIdx j15)) x16.2.toNat 8) (
          ∃ b18 : Bool, ((sub (rowAt (windowV (l14.eraseIdx j15)) x16.2) 7 1 : Option (List V)) = some [V.bool b18]) ∧ (
          br (notB b18) (
            need (andB (leI 0 x16.2) (ltI x16.2 (lenL (windowV (l14.eraseIdx j15))))) (
            need (okRow (windowV (l14.eraseIdx j15)) x16.2.toNat 8) (
            ∃ n19 : Int, ((sub (rowAt (windowV (l14.eraseIdx j15)) x16.2) 0 1 : Option (List V)) = some [V.int IntKind.i64 n19]) ∧ (
            ((rddC.mk n (Int.ofNat 0) (Int.ofNat 0) (windowV (l14.eraseIdx j15)) (eqI f n6) : (rddL I).C) = rddC.mk n 0 0 (windowV (l14.eraseIdx j15)) (eqI f n6)) ∧ (
            ∃ m'20 : Nat, (((m'20 : Nat) < m17)) ∧ (
            I (rddC.mk n 0 0 (windowV (l14.eraseIdx j15)) (eqI f n6)) (rddX.mk 0 0) (rddX.mk n19 (addI IntKind.i64 x16.2 1)) m'20)))))) (
            ((rddC.mk n (Int.ofNat 0) (Int.ofNat 0) (windowV (l14.eraseIdx j15)) (eqI f n6) : (rddL I).C) = rddC.mk n 0 0 (windowV (l14.eraseIdx j15)) (eqI f n6)) ∧ (
            ∃ m'19 : Nat, (((m'19 : Nat) < m17)) ∧ (
            I (rddC.mk n 0 0 (windowV (l14.eraseIdx j15)) (eqI f n6)) (rddX.mk 0 0) (rddX.mk x16.1 (addI IntKind.i64 x16.2 1)) m'19))))))) (
          K (V.agg [V.int IntKind.i64 n, V.int IntKind.i64 x16.1, V.lst (windowV (l14.eraseIdx j15))]) [])) (
        K (V.agg [V.int IntKind.i64 n, V.int IntKind.i64 x16.1, V.lst (windowV (l14.eraseIdx j15))]) [])))) (
      (∃ m16 : Nat, (((m16 : Nat) < 18446744073709551616)) ∧ (
      I (rddC.mk n 0 0 (windowV (l14.eraseIdx j15)) (eqI f n6)) (rddX.mk f 0) (rddX.mk f 0) m16)) ∧ (
      ∀ x16 : (rddL I).X, ∀ m17 : Nat, (I (rddC.mk n 0 0 (windowV (l14.eraseIdx j15)) (eqI f n6)) (rddX.mk f 0) x16 m17) → (
      br (ltI x16.2 (lenL (windowV (l14.eraseIdx j15)))) (
        br (eqI f n6) (
          need (andB (leI 0 x16.2) (ltI x16.2 (lenL (windowV (l14.eraseIdx j15))))) (
          need (okRow (windowV (l14.eraseIdx j15)) x16.2.toNat 8) (
          ∃ b18 : Bool, ((sub (rowAt (windowV (l14.eraseIdx j15)) x16.2) 7 1 : Option (List V)) = some [V.bool b18]) ∧ (
          br (notB b18) (
            need (andB (leI 0 x16.2) (ltI x16.2 (lenL (windowV (l14.eraseIdx j15))))) (
            need (okRow (windowV (l14.eraseIdx j15)) x16.2.toNat 8) (
            ∃ n19 : Int, ((sub (rowAt (windowV (l14.eraseIdx j15)) x16.2) 0 1 : Option (List V)) = some [V.int IntKind.i64 n19]) ∧ (
            ((rddC.mk n (Int.ofNat 0) (Int.ofNat 0) (windowV (l14.eraseIdx j15)) (eqI f n6) : (rddL I).C) = rddC.mk n 0 0 (windowV (l14.eraseIdx j15)) (eqI f n6)) ∧ (
            ∃ m'20 : Nat, (((m'20 : Nat) < m17)) ∧ (
            I (rddC.mk n 0 0 (windowV (l14.eraseIdx j15)) (eqI f n6)) (rddX.mk f 0) (rddX.mk n19 (addI IntKind.i64 x16.2 1)) m'20)))))) (
            ((rddC.mk n (Int.ofNat 0) (Int.ofNat 0) (windowV (l14.eraseIdx j15)) (eqI f n6) : (rddL I).C) = rddC.mk n 0 0 (windowV (l14.eraseIdx j15)) (eqI f n6)) ∧ (
            ∃ m'19 : Nat, (((m'19 : Nat) < m17)) ∧ (
            I (rddC.mk n 0 0 (windowV (l14.eraseIdx j15)) (eqI f n6)) (rddX.mk f 0) (rddX.mk x16.1 (addI IntKind.i64 x16.2 1)) m'19))))))) (
          K (V.agg [V.int IntKind.i64 n, V.int IntKind.i64 x16.1, V.lst (windowV (l14.eraseIdx j15))]) [])) (
        K (V.agg [V.int IntKind.i64 n, V.int IntKind.i64 x16.1, V.lst (windowV (l14.eraseIdx j15))]) []))))))))))))) := by kernel_rfl

def rct_vc_3 (n f : Int) (xs : List (List V)) (i k : Int) (c : List UInt8) (K : V → List Bk → Prop) : Prop :=
  (
            br (eqI k 5) (
              br (eqS c [100, 101, 108, 101, 116, 101]) (
                ∃ l15 : List Window, ∃ j16 : Nat, ((xs : List (List V)) = windowV l15) ∧ (
                ((i : Int) = Int.ofNat j16) ∧ (
                (((j16 : Nat) < l15.length)) ∧ (
                (((l15.length : Nat) ≤ 1000)) ∧ (
                K (V.tup [V.agg [V.int IntKind.i64 (deletedF (Windows.mk n f l15) i).1, V.int IntKind.i64 (deletedF (Windows.mk n f l15) i).2, V.lst (windowV (deletedF (Windows.mk n f l15) i).3)], V.int IntKind.i64 0]) []))))) (
                K (V.tup [V.agg [V.int IntKind.i64 n, V.int IntKind.i64 f, V.lst xs], V.int IntKind.i64 54]) [])) (
              K (V.tup [V.agg [V.int IntKind.i64 n, V.int IntKind.i64 f, V.lst xs], V.int IntKind.i64 54]) []))
def rct_vc_1 (n f : Int) (xs : List (List V)) (i k : Int) (c : List UInt8) (K : V → List Bk → Prop) (n7 : Int) : Prop :=
  (
        br (eqI k 5) (
          br (eqS c [102, 111, 99, 117, 115]) (
            K (V.tup [V.agg [V.int IntKind.i64 n, V.int IntKind.i64 n7, V.lst xs], V.int IntKind.i64 0]) []) (rct_vc_3 n f xs i k c K)) (rct_vc_3 n f xs i k c K))
def rct_vc_2 (n f : Int) (xs : List (List V)) (i k : Int) (c : List UInt8) (K : V → List Bk → Prop) (xs11 : List (List V)) (b9 : Bool) (s10 : List UInt8) (n7 : Int) (s8 : List UInt8) (s12 : List UInt8) (n13 : Int) (b14 : Bool) : Prop :=
  (
      ∃ l15 : List (List UInt8), ((xs11 : List (List V)) = strV l15) ∧ (
      ((rightL (Line.mk b9 s10 l15) : Bool) = true) ∧ (
      ∃ l16 : List Window, ∃ j17 : Nat, ∃ ls18 : List (List UInt8), ((xs : List (List V)) = windowV l16) ∧ (
      ((i : Int) = Int.ofNat j17) ∧ (
      (((j17 : Nat) < l16.length)) ∧ (
      (((l16.length : Nat) ≤ 1000)) ∧ (
      ((strV (setRawF (Line.mk b9 s10 l15) (eqS c (ByteArray.mk #[114, 97, 119, 111, 110]).data.toList)).3 : List (List V)) = strV ls18) ∧ (
      K (V.tup [V.agg [V.int IntKind.i64 n, V.int IntKind.i64 f, V.lst (windowV (l16.set j17 (Window.mk n7 s8 (Line.mk (setRawF (Line.mk b9 s10 l15) (eqS c (ByteArray.mk #[114, 97, 119, 111, 110]).data.toList)).raw (setRawF (Line.mk b9 s10 l15) (eqS c (ByteArray.mk #[114, 97, 119, 111, 110]).data.toList)).text ls18) s12 n13 b14)))], V.int IntKind.i64 0]) []))))))))
theorem rct_vc (n f : Int) (xs : List (List V)) (i k : Int) (c : List UInt8) (K : V → List Bk → Prop) : vcF Tryz.prog cfgN (ctOf [(84, setRawCon), (49, withCon), (85, rdelCon)]) (lpOf []) 60 [.agg [.int .i64 n, .int .i64 f, .lst xs], .int .i64 i, .int .i64 k, .str c] [] K = (
  need (andB (leI 0 i) (ltI i (lenL xs))) (
  need (okRow xs i.toNat 8) (
  ∃ n7 : Int, ∃ s8 : List UInt8, ∃ b9 : Bool, ∃ s10 : List UInt8, ∃ xs11 : List (List V), ∃ s12 : List UInt8, ∃ n13 : Int, ∃ b14 : Bool, ((sub (rowAt xs i) 0 8 : Option (List V)) = some [V.int IntKind.i64 n7, V.str s8, V.bool b9, V.str s10, V.lst xs11, V.str s12, V.int IntKind.i64 n13, V.bool b14]) ∧ (
  br (eqI k 2) (
    br (eqS c [114, 97, 119, 111, 110]) (rct_vc_2 n f xs i k c K xs11 b9 s10 n7 s8 s12 n13 b14) (
      br (eqS c [114, 97, 119, 111, 102, 102]) (rct_vc_2 n f xs i k c K xs11 b9 s10 n7 s8 s12 n13 b14) (rct_vc_1 n f xs i k c K n7))) (rct_vc_1 n f xs i k c K n7))))) := by kernel_rfl

def rwr_vc_1 (n f : Int) (xs : List (List V)) (id : Int) (s : List UInt8) (K : V → List Bk → Prop) (l7 : List Window) (xs12 : List (List V)) (n8 : Int) (b10 : Bool) (s11 : List UInt8) (s13 : List UInt8) (n14 : Int) (b15 : Bool) : Prop :=
  (
                br (eqI (id.tmod 16) 3) (
                  ∃ l16 : List Window, ∃ j17 : Nat, ∃ ls18 : List (List UInt8), ((xs : List (List V)) = windowV l16) ∧ (
                  ((idxW l7 (quoI IntKind.i64 id 16) : Int) = Int.ofNat j17) ∧ (
                  (((j17 : Nat) < l16.length)) ∧ (
                  (((l16.length : Nat) ≤ 1000)) ∧ (
                  ((xs12 : List (List V)) = strV ls18) ∧ (
                  K (V.tup [V.agg [V.int IntKind.i64 n, V.int IntKind.i64 f, V.lst (windowV (l16.set j17 (Window.mk n8 s (Line.mk b10 s11 ls18) s13 n14 b15)))], V.int IntKind.i64 (lenS s), V.int IntKind.i64 0]) [])))))) (
                  br (eqI (id.tmod 16) 4) (
                    K (V.tup [V.agg [V.int IntKind.i64 n, V.int IntKind.i64 f, V.lst xs], V.int IntKind.i64 0, V.int IntKind.i64 11]) []) (
                    (((s.length : Nat) ≤ 4611686018427387904)) ∧ (
                    ∃ l16 : List Window, ∃ j17 : Nat, ((xs : List (List V)) = windowV l16) ∧ (
                    ((idxW l7 (quoI IntKind.i64 id 16) : Int) = Int.ofNat j17) ∧ (
                    (((j17 : Nat) < l16.length)) ∧ (
                    ((rightW (Windows.mk n f l16) : Bool) = true) ∧ (
                    (ctlK (id.tmod 16)) ∧ (
                    br (notB (eqI (controlF (Windows.mk n f l16) (idxW l7 (quoI IntKind.i64 id 16)) (id.tmod 16) (cmdF s)).2 0)) (
                      K (V.tup [V.agg [V.int IntKind.i64 n, V.int IntKind.i64 f, V.lst xs], V.int IntKind.i64 0, V.int IntKind.i64 (controlF (Windows.mk n f l16) (idxW l7 (quoI IntKind.i64 id 16)) (id.tmod 16) (cmdF s)).2]) []) (
                      K (V.tup [V.agg [V.int IntKind.i64 (controlF (Windows.mk n f l16) (idxW l7 (quoI IntKind.i64 id 16)) (id.tmod 16) (cmdF s)).fst.1, V.int IntKind.i64 (controlF (Windows.mk n f l16) (idxW l7 (quoI IntKind.i64 id 16)) (id.tmod 16) (cmdF s)).fst.2, V.lst (windowV (controlF (Windows.mk n f l16) (idxW l7 (quoI IntKind.i64 id 16)) (id.tmod 16) (cmdF s)).fst.3)], V.int IntKind.i64 (lenS s), V.int IntKind.i64 0]) []))))))))))
theorem rwr_vc (n f : Int) (xs : List (List V)) (id : Int) (s : List UInt8) (K : V → List Bk → Prop) : vcF Tryz.prog cfgN (ctOf [(51, exCon), (54, dirCon), (59, cmdCon), (58, numCon), (22, focusCon), (47, idxCon), (50, showCon), (49, withCon), (60, rctlCon)]) (lpOf []) 26 [.agg [.int .i64 n, .int .i64 f, .lst xs], .int .i64 id, .str s] [] K = (
  ∃ l6 : List Window, ((xs : List (List V)) = windowV l6) ∧ (
  (((l6.length : Nat) ≤ 100000)) ∧ (
  (((id : Int) ≤ 9223372036854775807)) ∧ (
  br (notB (exB l6 id)) (
    K (V.tup [V.agg [V.int IntKind.i64 n, V.int IntKind.i64 f, V.lst xs], V.int IntKind.i64 0, V.int IntKind.i64 8]) []) (
    br (dirB id) (
      K (V.tup [V.agg [V.int IntKind.i64 n, V.int IntKind.i64 f, V.lst xs], V.int IntKind.i64 0, V.int IntKind.i64 10]) []) (
      br (eqI id 2) (
        (((s.length : Nat) ≤ 4611686018427387904)) ∧ (
        ((((cmdF s).length : Nat) ≤ 4611686018427387904)) ∧ (
        (∀ n7 : Int, ((numF (cmdF s) : Option Int) = some n7) → (
        ∃ l8 : List Window, ((xs : List (List V)) = windowV l8) ∧ (
        (smallL l8) ∧ (
        br (notB (eqI (focusF (Windows.mk n f l8) n7).2 0)) (
          K (V.tup [V.agg [V.int IntKind.i64 n, V.int IntKind.i64 f, V.lst xs], V.int IntKind.i64 0, V.int IntKind.i64 (focusF (Windows.mk n f l8) n7).2]) []) (
          K (V.tup [V.agg [V.int IntKind.i64 (focusF (Windows.mk n f l8) n7).fst.1, V.int IntKind.i64 (focusF (Windows.mk n f l8) n7).fst.2, V.lst (windowV (focusF (Windows.mk n f l8) n7).fst.3)], V.int IntKind.i64 (lenS s), V.int IntKind.i64 0]) []))))) ∧ (
        ((numF (cmdF s) : Option Int) = none) → (
        K (V.tup [V.agg [V.int IntKind.i64 n, V.int IntKind.i64 f, V.lst xs], V.int IntKind.i64 0, V.int IntKind.i64 5]) []))))) (
        ∃ l7 : List Window, ((xs : List (List V)) = windowV l7) ∧ (
        (((l7.length : Nat) ≤ 100000)) ∧ (
        need (andB (leI 0 (idxW l7 (quoI IntKind.i64 id 16))) (ltI (idxW l7 (quoI IntKind.i64 id 16)) (lenL xs))) (
        need (okRow xs (idxW l7 (quoI IntKind.i64 id 16)).toNat 8) (
        ∃ n8 : Int, ∃ s9 : List UInt8, ∃ b10 : Bool, ∃ s11 : List UInt8, ∃ xs12 : List (List V), ∃ s13 : List UInt8, ∃ n14 : Int, ∃ b15 : Bool, ((sub (rowAt xs (idxW l7 (quoI IntKind.i64 id 16))) 0 8 : Option (List V)) = some [V.int IntKind.i64 n8, V.str s9, V.bool b10, V.str s11, V.lst xs12, V.str s13, V.int IntKind.i64 n14, V.bool b15]) ∧ (
        br (b15) (
          K (V.tup [V.agg [V.int IntKind.i64 n, V.int IntKind.i64 f, V.lst xs], V.int IntKind.i64 0, V.int IntKind.i64 55]) []) (
          br (eqI (id.tmod 16) 1) (
            (((s13.length + s.length : Nat) ≤ 4611686018427387904)) ∧ (
            ∃ l16 : List Window, ∃ j17 : Nat, ∃ ls18 : List (List UInt8), ((xs : List (List V)) = windowV l16) ∧ (
            ((idxW l7 (quoI IntKind.i64 id 16) : Int) = Int.ofNat j17) ∧ (
            (((j17 : Nat) < l16.length)) ∧ (
            (((l16.length : Nat) ≤ 1000)) ∧ (
            ((xs12 : List (List V)) = strV ls18) ∧ (
            K (V.tup [V.agg [V.int IntKind.i64 n, V.int IntKind.i64 f, V.lst (windowV (l16.set j17 (Window.mk n8 s9 (Line.mk b10 s11 ls18) (showT s13 s) n14 b15)))], V.int IntKind.i64 (lenS s), V.int IntKind.i64 0]) []))))))) (
            br (eqI (id.tmod 16) 3) (
              br (ltI 64 (lenS s)) (
                K (V.tup [V.agg [V.int IntKind.i64 n, V.int IntKind.i64 f, V.lst xs], V.int IntKind.i64 0, V.int IntKind.i64 4]) []) (rwr_vc_1 n f xs id s K l7 xs12 n8 b10 s11 s13 n14 b15)) (rwr_vc_1 n f xs id s K l7 xs12 n8 b10 s11 s13 n14 b15))))))))))))))) := by kernel_rfl

def rcs_vc_1 (n f : Int) (xs : List (List V)) (id m : Int) (K : V → List Bk → Prop) (l7 : List Window) (xs12 : List (List V)) (n8 : Int) (s9 : List UInt8) (b10 : Bool) (s11 : List UInt8) (s13 : List UInt8) (n14 : Int) (b15 : Bool) : Prop :=
  (
              ∃ l16 : List Window, ∃ j17 : Nat, ∃ ls18 : List (List UInt8), ((xs : List (List V)) = windowV l16) ∧ (
              ((idxW l7 (quoI IntKind.i64 id 16) : Int) = Int.ofNat j17) ∧ (
              (((j17 : Nat) < l16.length)) ∧ (
              (((l16.length : Nat) ≤ 1000)) ∧ (
              ((xs12 : List (List V)) = strV ls18) ∧ (
              K (V.agg [V.int IntKind.i64 n, V.int IntKind.i64 f, V.lst (windowV (l16.set j17 (Window.mk n8 s9 (Line.mk b10 s11 ls18) s13 (subI IntKind.i64 n14 1) b15)))]) []))))))
def rcs_vc_2 (n f : Int) (xs : List (List V)) (id m : Int) (K : V → List Bk → Prop) (l7 : List Window) (xs12 : List (List V)) (n8 : Int) (s9 : List UInt8) (b10 : Bool) (s11 : List UInt8) (s13 : List UInt8) (n14 : Int) (b15 : Bool) : Prop :=
  (
              ∃ l16 : List Window, ∃ j17 : Nat, ∃ ls18 : List (List UInt8), ((xs : List (List V)) = windowV l16) ∧ (
              ((idxW l7 (quoI IntKind.i64 id 16) : Int) = Int.ofNat j17) ∧ (
              (((j17 : Nat) < l16.length)) ∧ (
              (((l16.length : Nat) ≤ 1000)) ∧ (
              ((xs12 : List (List V)) = strV ls18) ∧ (
              K (V.agg [V.int IntKind.i64 n, V.int IntKind.i64 f, V.lst (windowV (l16.set j17 (Window.mk n8 s9 (Line.mk b10 s11 ls18) s13 n14 b15)))]) []))))))
def rcs_vc_3 (n f : Int) (xs : List (List V)) (id m : Int) (K : V → List Bk → Prop) (l7 : List Window) : Prop :=
  (
              ∃ l16 : List Window, ∃ j17 : Nat, ((xs : List (List V)) = windowV l16) ∧ (
              ((idxW l7 (quoI IntKind.i64 id 16) : Int) = Int.ofNat j17) ∧ (
              (((j17 : Nat) < l16.length)) ∧ (
              (((l16.length : Nat) ≤ 1000)) ∧ (
              K (V.agg [V.int IntKind.i64 n, V.int IntKind.i64 f, V.lst (windowV (l16.eraseIdx j17))]) [])))))
theorem rcs_vc (n f : Int) (xs : List (List V)) (id m : Int) (K : V → List Bk → Prop) : vcF Tryz.prog cfgN (ctOf [(51, exCon), (54, dirCon), (47, idxCon), (49, withCon), (61, withoutCon)]) (lpOf []) 27 [.agg [.int .i64 n, .int .i64 f, .lst xs], .int .i64 id, .int .i64 m] [] K = (
  br (ltI id 16) (
    K (V.agg [V.int IntKind.i64 n, V.int IntKind.i64 f, V.lst xs]) []) (
    br (dirB id) (
      K (V.agg [V.int IntKind.i64 n, V.int IntKind.i64 f, V.lst xs]) []) (
      ∃ l6 : List Window, ((xs : List (List V)) = windowV l6) ∧ (
      (((l6.length : Nat) ≤ 100000)) ∧ (
      (((id : Int) ≤ 9223372036854775807)) ∧ (
      br (notB (exB l6 id)) (
        K (V.agg [V.int IntKind.i64 n, V.int IntKind.i64 f, V.lst xs]) []) (
        ∃ l7 : List Window, ((xs : List (List V)) = windowV l7) ∧ (
        (((l7.length : Nat) ≤ 100000)) ∧ (
        need (andB (leI 0 (idxW l7 (quoI IntKind.i64 id 16))) (ltI (idxW l7 (quoI IntKind.i64 id 16)) (lenL xs))) (
        need (okRow xs (idxW l7 (quoI IntKind.i64 id 16)).toNat 8) (
        ∃ n8 : Int, ∃ s9 : List UInt8, ∃ b10 : Bool, ∃ s11 : List UInt8, ∃ xs12 : List (List V), ∃ s13 : List UInt8, ∃ n14 : Int, ∃ b15 : Bool, ((sub (rowAt xs (idxW l7 (quoI IntKind.i64 id 16))) 0 8 : Option (List V)) = some [V.int IntKind.i64 n8, V.str s9, V.bool b10, V.str s11, V.lst xs12, V.str s13, V.int IntKind.i64 n14, V.bool b15]) ∧ (
        br (ltI 0 n14) (
          br (b15) (
            br (eqI (subI IntKind.i64 n14 1) 0) (rcs_vc_3 n f xs id m K l7) (rcs_vc_1 n f xs id m K l7 xs12 n8 s9 b10 s11 s13 n14 b15)) (rcs_vc_1 n f xs id m K l7 xs12 n8 s9 b10 s11 s13 n14 b15)) (
          br (b15) (
            br (eqI n14 0) (rcs_vc_3 n f xs id m K l7) (rcs_vc_2 n f xs id m K l7 xs12 n8 s9 b10 s11 s13 n14 b15)) (rcs_vc_2 n f xs id m K l7 xs12 n8 s9 b10 s11 s13 n14 b15)))))))))))))) := by kernel_rfl

theorem wnt_vc (n f : Int) (xs : List (List V)) (k a m o c : Int) (t : List UInt8) (K : V → List Bk → Prop) : vcF Tryz.prog cfgN (ctOf [(21, makeCon), (22, focusCon), (23, wtypeCon), (24, openCon), (25, wreadCon), (26, writeCon), (27, closeCon)]) (lpOf []) 9 [.agg [.int .i64 n, .int .i64 f, .lst xs], .agg [.int .i64 k, .int .i64 a, .int .i64 m, .int .i64 o, .int .i64 c, .str t]] [] K = (
  br (eqI k 1) (
    ∃ l10 : List Window, ((xs : List (List V)) = windowV l10) ∧ (
    (smallL l10) ∧ (
    ((((n : Int) ≤ 9223372036854775807)) ∧ (
    ((-9223372036854775808 : Int) ≤ n))) ∧ (
    K (V.tup [V.agg [V.int IntKind.i64 (makeF (Windows.mk n f l10) t).fst.1, V.int IntKind.i64 (makeF (Windows.mk n f l10) t).fst.2, V.lst (windowV (makeF (Windows.mk n f l10) t).fst.3)], V.agg [V.int IntKind.i64 (makeF (Windows.mk n f l10) t).snd.1, V.str [], V.bool false, V.int IntKind.i64 (makeF (Windows.mk n f l10) t).snd.2]]) [])))) (
    br (eqI k 2) (
      ∃ l10 : List Window, ((xs : List (List V)) = windowV l10) ∧ (
      (smallL l10) ∧ (
      K (V.tup [V.agg [V.int IntKind.i64 (focusF (Windows.mk n f l10) a).fst.1, V.int IntKind.i64 (focusF (Windows.mk n f l10) a).fst.2, V.lst (windowV (focusF (Windows.mk n f l10) a).fst.3)], V.agg [V.int IntKind.i64 0, V.str [], V.bool false, V.int IntKind.i64 (focusF (Windows.mk n f l10) a).2]]) []))) (
      br (eqI k 3) (
        ∃ l10 : List Window, ((xs : List (List V)) = windowV l10) ∧ (
        ((rightW (Windows.mk n f l10) : Bool) = true) ∧ (
        (((t.length : Nat) ≤ 100000)) ∧ (
        K (V.tup [V.agg [V.int IntKind.i64 (typeW (Windows.mk n f l10) t).1, V.int IntKind.i64 (typeW (Windows.mk n f l10) t).2, V.lst (windowV (typeW (Windows.mk n f l10) t).3)], V.agg [V.int IntKind.i64 0, V.str [], V.bool false, V.int IntKind.i64 0]]) [])))) (
        br (eqI k 4) (
          ∃ l10 : List Window, ((xs : List (List V)) = windowV l10) ∧ (
          ((rightW (Windows.mk n f l10) : Bool) = true) ∧ (
          (((a : Int) ≤ 9223372036854775807)) ∧ (
          (((m : Int) ≤ 9223372036854775807)) ∧ (
          (((-9223372036854775808 : Int) ≤ m)) ∧ (
          K (V.tup [V.agg [V.int IntKind.i64 (openF (Windows.mk n f l10) a m).fst.1, V.int IntKind.i64 (openF (Windows.mk n f l10) a m).fst.2, V.lst (windowV (openF (Windows.mk n f l10) a m).fst.3)], V.agg [V.int IntKind.i64 0, V.str [], V.bool false, V.int IntKind.i64 (openF (Windows.mk n f l10) a m).2]]) [])))))) (
          br (eqI k 5) (
            ∃ l10 : List Window, ((xs : List (List V)) = windowV l10) ∧ (
            ((rightW (Windows.mk n f l10) : Bool) = true) ∧ (
            (((a : Int) ≤ 9223372036854775807)) ∧ (
            K (V.tup [V.agg [V.int IntKind.i64 (readW (Windows.mk n f l10) a o c).fst.1, V.int IntKind.i64 (readW (Windows.mk n f l10) a o c).fst.2, V.lst (windowV (readW (Windows.mk n f l10) a o c).fst.3)], V.agg [V.int IntKind.i64 0, V.str (readW (Windows.mk n f l10) a o c).snd.1, V.bool (readW (Windows.mk n f l10) a o c).snd.snd.1, V.int IntKind.i64 (readW (Windows.mk n f l10) a o c).snd.snd.2]]) [])))) (
            br (eqI k 6) (
              ∃ l10 : List Window, ((xs : List (List V)) = windowV l10) ∧ (
              ((rightW (Windows.mk n f l10) : Bool) = true) ∧ (
              (((a : Int) ≤ 9223372036854775807)) ∧ (
              (((t.length : Nat) ≤ 1000000)) ∧ (
              K (V.tup [V.agg [V.int IntKind.i64 (writeW (Windows.mk n f l10) a t).fst.1, V.int IntKind.i64 (writeW (Windows.mk n f l10) a t).fst.2, V.lst (windowV (writeW (Windows.mk n f l10) a t).fst.3)], V.agg [V.int IntKind.i64 (writeW (Windows.mk n f l10) a t).snd.1, V.str [], V.bool false, V.int IntKind.i64 (writeW (Windows.mk n f l10) a t).snd.2]]) []))))) (
              br (eqI k 7) (
                ∃ l10 : List Window, ((xs : List (List V)) = windowV l10) ∧ (
                ((rightW (Windows.mk n f l10) : Bool) = true) ∧ (
                (((a : Int) ≤ 9223372036854775807)) ∧ (
                K (V.tup [V.agg [V.int IntKind.i64 (closeW (Windows.mk n f l10) a).1, V.int IntKind.i64 (closeW (Windows.mk n f l10) a).2, V.lst (windowV (closeW (Windows.mk n f l10) a).3)], V.agg [V.int IntKind.i64 0, V.str [], V.bool false, V.int IntKind.i64 0]]) [])))) (
                K (V.tup [V.agg [V.int IntKind.i64 n, V.int IntKind.i64 f, V.lst xs], V.agg [V.int IntKind.i64 0, V.str [], V.bool false, V.int IntKind.i64 0]]) [])))))))) := by kernel_rfl

end Go.Proofs.YtdbbpibfejchfaaGreatDoor
