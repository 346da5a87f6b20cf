/- Tables of sessions, changed: conditions. -/
import Derived.Test.YtjilikmpfmifkaaDoorSessR
import Derived.Test.YtjilikmpfmifkaaDoorEvF
namespace Go.Proofs.YtjilikmpfmifkaaDoor
open Go.RowKit
set_option maxRecDepth 100000
set_option linter.unusedVariables false
set_option linter.unusedSimpArgs false
structure cpC where
  xs : List (List V)
  cnt : Int
structure cpX where
  ys : List (List V)
  n : Nat
  k : Nat
  i : Int
def cpSt (c : cpC) (x : cpX) : St := ⟨[(3, .ref 0 0 x.n x.k), (6, .lst c.xs), (7, .int .i64 c.cnt), (8, .int .i64 x.i)], [(0, ⟨true, false, true, x.ys⟩)]⟩
def cpUn (s : St) : Option (cpC × cpX) :=
  match s with
  | ⟨[(q0, .ref q1 q2 n k), (q3, .lst xs), (q4, .int .i64 cnt), (q5, .int .i64 i)], [(q6, ⟨true, false, true, ys⟩)]⟩ => bif Nat.beq q0 3 && Nat.beq q1 0 && Nat.beq q2 0 && Nat.beq q3 6 && Nat.beq q4 7 && Nat.beq q5 8 && Nat.beq q6 0 then some (⟨xs, cnt⟩, ⟨ys, n, k, i⟩) else none
  | _ => none
def cpL (inv : cpC → cpX → cpX → Nat → Prop) : LoopS where
  C := cpC
  X := cpX
  st := cpSt
  un := cpUn
  ok := by
    intro s c x h
    unfold cpUn at h
    split at h
    · simp only [Bool.cond_eq_ite] at h
      split at h
      · rename_i hg
        simp only [Bool.and_eq_true, Nat.beq_eq] at hg
        obtain ⟨⟨⟨⟨⟨⟨rfl, rfl⟩, rfl⟩, rfl⟩, rfl⟩, rfl⟩, rfl⟩ := hg
        cases h
        rfl
      · cases h
    · cases h
  inv := inv

structure sfC where
  xs : List (List V)
  ys : List (List V)
  cnt : Int
structure sfX where
  i : Int
def sfSt (c : sfC) (x : sfX) : St := ⟨[(0, .lst c.xs), (1, .lst c.ys), (12, .int .i64 c.cnt), (13, .int .i64 x.i)], []⟩
def sfUn (s : St) : Option (sfC × sfX) :=
  match s with
  | ⟨[(q0, .lst xs), (q1, .lst ys), (q2, .int .i64 cnt), (q3, .int .i64 i)], []⟩ => bif Nat.beq q0 0 && Nat.beq q1 1 && Nat.beq q2 12 && Nat.beq q3 13 then some (⟨xs, ys, cnt⟩, ⟨i⟩) else none
  | _ => none
def sfL (inv : sfC → sfX → sfX → Nat → Prop) : LoopS where
  C := sfC
  X := sfX
  st := sfSt
  un := sfUn
  ok := by
    intro s c x h
    unfold sfUn at h
    split at h
    · simp only [Bool.cond_eq_ite] at h
      split at h
      · rename_i hg
        simp only [Bool.and_eq_true, Nat.beq_eq] at hg
        obtain ⟨⟨⟨rfl, rfl⟩, rfl⟩, rfl⟩ := hg
        cases h
        rfl
      · cases h
    · cases h
  inv := inv

theorem cp_vc (xs : List (List V)) (I : cpC → cpX → cpX → Nat → Prop) (K : V → List Bk → Prop) : vcF Tryd.prog cfgN (ctOf []) (lpOf [(3, cpL I)]) 35 [.lst xs] [] K = (
  (∃ m3 : Nat, (m3 < 18446744073709551616) ∧ (
  I (cpC.mk xs (lenL xs)) (cpX.mk [] 0 0 0) (cpX.mk [] 0 0 0) m3)) ∧ (
  ∀ x3 : (cpL I).X, ∀ m4 : Nat, (I (cpC.mk xs (lenL xs)) (cpX.mk [] 0 0 0) x3 m4) → (
  br (ltI x3.4 (lenL xs)) (
    need (andB (leI 0 x3.4) (ltI x3.4 (lenL xs))) (
    need (okRow xs x3.4.toNat 3) (
    ∃ s5 : List UInt8, ∃ xs6 : List (List V), ∃ n7 : Int, ((sub (rowAt xs x3.4) 0 3 : Option (List V)) = some [V.str s5, V.lst xs6, V.int IntKind.i64 n7]) ∧ (
    need (headOkP 7 xs6) (
    need (leN (xs6.length * 56) 140737488355328) (
    need (headOkP 3 x3.1) (
    br (leN (x3.2 + 1) x3.3) (
      ((cpC.mk xs (lenL xs) : (cpL I).C) = cpC.mk xs (lenL xs)) ∧ (
      ∃ m'8 : Nat, (m'8 < m4) ∧ (
      I (cpC.mk xs (lenL xs)) (cpX.mk [] 0 0 0) (cpX.mk (List.take (0 + x3.2) x3.1 ++ [[V.str s5, V.lst (List.take xs6.length (List.drop 0 xs6)), V.int IntKind.i64 n7]] ++ List.drop (0 + x3.2 + 1) x3.1) (x3.2 + 1) x3.3 (addI IntKind.i64 x3.4 1)) m'8))) (
      need (eqN (0 + x3.2) x3.1.length) (
      need (leN ((x3.2 + 1) * 48) 140737488355328) (
      ((cpC.mk xs (lenL xs) : (cpL I).C) = cpC.mk xs (lenL xs)) ∧ (
      ∃ m'8 : Nat, (m'8 < m4) ∧ (
      I (cpC.mk xs (lenL xs)) (cpX.mk [] 0 0 0) (cpX.mk (List.drop 0 x3.1 ++ [[V.str s5, V.lst (List.take xs6.length (List.drop 0 xs6)), V.int IntKind.i64 n7]]) (x3.2 + 1) (x3.2 + 1) (addI IntKind.i64 x3.4 1)) m'8)))))))))))) (
    K (V.ref 0 0 x3.2 x3.3) [Bk.mk true false true x3.1])))) := by kernel_rfl

theorem sf_vc (xs ys : List (List V)) (I : sfC → sfX → sfX → Nat → Prop) (K : V → List Bk → Prop) : vcF Tryd.prog cfgN (ctOf []) (lpOf [(4, sfL I)]) 24 [.lst xs, .lst ys] [] K = (
  br (notB (eqI (lenL xs) (lenL ys))) (
    K (V.bool false) []) (
    (∃ m4 : Nat, (m4 < 18446744073709551616) ∧ (
    I (sfC.mk xs ys (lenL xs)) (sfX.mk 0) (sfX.mk 0) m4)) ∧ (
    ∀ x4 : (sfL I).X, ∀ m5 : Nat, (I (sfC.mk xs ys (lenL xs)) (sfX.mk 0) x4 m5) → (
    br (ltI x4.1 (lenL xs)) (
      need (andB (leI 0 x4.1) (ltI x4.1 (lenL xs))) (
      need (okRow xs x4.1.toNat 7) (
      ∃ n6 : Int, ∃ n7 : Int, ∃ s8 : List UInt8, ∃ b9 : Bool, ∃ b10 : Bool, ∃ n11 : Int, ∃ n12 : Int, ((sub (rowAt xs x4.1) 0 7 : Option (List V)) = some [V.int IntKind.i64 n6, V.int IntKind.i64 n7, V.str s8, V.bool b9, V.bool b10, V.int IntKind.i64 n11, V.int IntKind.i64 n12]) ∧ (
      need (andB (leI 0 x4.1) (ltI x4.1 (lenL ys))) (
      need (okRow ys x4.1.toNat 7) (
      ∃ n13 : Int, ∃ n14 : Int, ∃ s15 : List UInt8, ∃ b16 : Bool, ∃ b17 : Bool, ∃ n18 : Int, ∃ n19 : Int, ((sub (rowAt ys x4.1) 0 7 : Option (List V)) = some [V.int IntKind.i64 n13, V.int IntKind.i64 n14, V.str s15, V.bool b16, V.bool b17, V.int IntKind.i64 n18, V.int IntKind.i64 n19]) ∧ (
      br (!(decide (n6 = n13) && (decide (n7 = n14) && (strEq s8 s15 && (b9 == b16 && (b10 == b17 && (decide (n11 = n18) && (decide (n12 = n19) && true)))))))) (
        K (V.bool false) []) (
        ((sfC.mk xs ys (lenL xs) : (sfL I).C) = sfC.mk xs ys (lenL xs)) ∧ (
        ∃ m'20 : Nat, (m'20 < m5) ∧ (
        I (sfC.mk xs ys (lenL xs)) (sfX.mk 0) (sfX.mk (addI IntKind.i64 x4.1 1)) m'20)))))))))) (
      K (V.bool true) []))))) := by kernel_rfl

end Go.Proofs.YtjilikmpfmifkaaDoor
namespace Go.Proofs.YtjilikmpfmifkaaDoor
open Go.RowKit
set_option maxRecDepth 100000
set_option linter.unusedVariables false
set_option linter.unusedSimpArgs false
def okF (l : List Sess) : Prop := ∀ s ∈ l, s.fids.length ≤ 1000
def cpCon : Con := fun vs bs K => match vs, bs with
  | [.lst xs], [] => ∃ l : List Sess, xs = sessV l ∧ l.length ≤ 100000 ∧ okF l ∧ K (.ref 0 0 l.length l.length) [⟨true, false, true, sessV l⟩]
  | _, _ => False
def cpI (l : List Sess) (x : cpX) (m : Nat) : Prop := ∃ j : Nat, x = ⟨sessV (l.take j), j, j, (j : Int)⟩ ∧ j + m = l.length
theorem cp_con {n : Nat} (hn : 1 ≤ n) : ConOk (evalF Tryd.prog cfgN n) 35 cpCon := by
  intro vs bs K h
  unfold cpCon at h
  split at h
  · obtain ⟨l, rfl, h1, h2, hK⟩ := h
    refine run_of (lp := lpOf [(3, cpL fun _ _ x m => cpI l x m)]) hn (fun k _ => noCt_ok _) ?_
    rw [cp_vc]
    simp only [sessV_lenL]
    refine ⟨⟨l.length, by omega, 0, rfl, by omega⟩, ?_⟩
    rintro _ m ⟨j, rfl, hj⟩
    dsimp only
    rw [br_iff]
    refine ⟨fun hlt => ?_, fun hge => ?_⟩
    · have hlt : j < l.length := by simp only [br_iff, need_iff, andB_t, andB_f, orB_t, orB_f, notB_t, notB_f, leI_t, leI_f, ltI_t, ltI_f, eqI_t, eqI_f, leN_t, leN_f, eqN_t, eqN_f, eqS_t, eqS_f, eqB_t, eqB_f, catOk_t, leC_t] at hlt; omega
      have gf : l[j]? = some l[j] := List.getElem?_eq_getElem hlt
      generalize l[j] = f at gf
      have rf := sessV_row gf
      have kf : okRow (sessV l) (Int.toNat (j : Int)) 3 = true := by simpa using sessV_ok (l := l) (i := j) hlt
      have nf : andB (leI 0 (j : Int)) (ltI (j : Int) (l.length : Int)) = true := by simp only [br_iff, need_iff, andB_t, andB_f, orB_t, orB_f, notB_t, notB_f, leI_t, leI_f, ltI_t, ltI_f, eqI_t, eqI_f, leN_t, leN_f, eqN_t, eqN_f, eqS_t, eqS_f, eqB_t, eqB_f, catOk_t, leC_t]; omega
      have hf2 := h2 f (List.mem_of_getElem? gf)
      rw [need_iff, need_iff]
      refine ⟨nf, kf, ?_⟩
      try rw [rf]
      repeat apply Exists.intro
      refine ⟨rfl, ?_⟩
      rw [need_iff]; refine ⟨fidsV_head _, ?_⟩
      rw [need_iff, fidsV_len]; refine ⟨by simp only [br_iff, need_iff, andB_t, andB_f, orB_t, orB_f, notB_t, notB_f, leI_t, leI_f, ltI_t, ltI_f, eqI_t, eqI_f, leN_t, leN_f, eqN_t, eqN_f, eqS_t, eqS_f, eqB_t, eqB_f, catOk_t, leC_t]; omega, ?_⟩
      rw [need_iff]; refine ⟨sessV_head _, ?_⟩
      have hl : (sessV (l.take j)).length = j := by rw [sessV_len, List.length_take]; omega
      rw [br_iff]
      refine ⟨fun g => by simp only [br_iff, need_iff, andB_t, andB_f, orB_t, orB_f, notB_t, notB_f, leI_t, leI_f, ltI_t, ltI_f, eqI_t, eqI_f, leN_t, leN_f, eqN_t, eqN_f, eqS_t, eqS_f, eqB_t, eqB_f, catOk_t, leC_t] at g; omega, fun _ => ?_⟩
      rw [need_iff, need_iff, hl]
      refine ⟨by simp only [br_iff, need_iff, andB_t, andB_f, orB_t, orB_f, notB_t, notB_f, leI_t, leI_f, ltI_t, ltI_f, eqI_t, eqI_f, leN_t, leN_f, eqN_t, eqN_f, eqS_t, eqS_f, eqB_t, eqB_f, catOk_t, leC_t]; omega, by simp only [br_iff, need_iff, andB_t, andB_f, orB_t, orB_f, notB_t, notB_f, leI_t, leI_f, ltI_t, ltI_f, eqI_t, eqI_f, leN_t, leN_f, eqN_t, eqN_f, eqS_t, eqS_f, eqB_t, eqB_f, catOk_t, leC_t]; omega, by trivial, m - 1, by omega, j + 1, ?_, by omega⟩
      have e1 : List.take f.fids.length (List.drop 0 (fidsV f.fids)) = fidsV f.fids := by rw [List.drop_zero, ← fidsV_len, List.take_length]
      rw [e1, List.drop_zero, addI_i64 (by omega) (by omega), ← sessV_snoc gf]
      simp [Sess.v]
    · have : j = l.length := by simp only [br_iff, need_iff, andB_t, andB_f, orB_t, orB_f, notB_t, notB_f, leI_t, leI_f, ltI_t, ltI_f, eqI_t, eqI_f, leN_t, leN_f, eqN_t, eqN_f, eqS_t, eqS_f, eqB_t, eqB_f, catOk_t, leC_t] at hge; omega
      subst this
      simpa using hK
  · exact h.elim
noncomputable def eqFids (a b : List Fid) : Bool := @decide (a = b) (Classical.propDecidable _)
theorem eqFids_t {a b : List Fid} : eqFids a b = true ↔ a = b := by simp [eqFids]
theorem eqFids_no {a b : List Fid} (h : a ≠ b) : eqFids a b = false := by rw [← Bool.not_eq_true, eqFids_t]; exact h
def sfCon : Con := fun vs bs K => match vs, bs with
  | [.lst xs, .lst ys], [] => ∃ a b : List Fid, xs = fidsV a ∧ ys = fidsV b ∧ a.length ≤ 100000 ∧ K (.bool (eqFids a b)) []
  | _, _ => False
def sfI (a b : List Fid) (x : sfX) (m : Nat) : Prop := ∃ j : Nat, x = ⟨(j : Int)⟩ ∧ j + m = a.length ∧ a.take j = b.take j
theorem take_eq_succ {α : Type} {a b : List α} {j : Nat} {f : α} (ha : a[j]? = some f) (hb : b[j]? = some f) (h : a.take j = b.take j) : a.take (j + 1) = b.take (j + 1) := by
  obtain ⟨h1, e1⟩ := List.getElem?_eq_some_iff.1 ha
  obtain ⟨h2, e2⟩ := List.getElem?_eq_some_iff.1 hb
  rw [List.take_succ_eq_append_getElem h1, List.take_succ_eq_append_getElem h2, h, e1, e2]
theorem sf_con {n : Nat} (hn : 1 ≤ n) : ConOk (evalF Tryd.prog cfgN n) 24 sfCon := by
  intro vs bs K h
  unfold sfCon at h
  split at h
  · obtain ⟨a, b, rfl, rfl, h1, hK⟩ := h
    refine run_of (lp := lpOf [(4, sfL fun _ _ x m => sfI a b x m)]) hn (fun k _ => noCt_ok _) ?_
    rw [sf_vc]
    simp only [fidsV_lenL]
    have no : a ≠ b → K (.bool false) [] := fun h => by rw [eqFids_no h] at hK; exact hK
    rw [br_iff]
    refine ⟨fun h => no (by rintro rfl; simp only [br_iff, need_iff, andB_t, andB_f, orB_t, orB_f, notB_t, notB_f, leI_t, leI_f, ltI_t, ltI_f, eqI_t, eqI_f, leN_t, leN_f, eqN_t, eqN_f, eqS_t, eqS_f, eqB_t, eqB_f, catOk_t, leC_t] at h; omega), fun h => ?_⟩
    have hl : a.length = b.length := by simp only [br_iff, need_iff, andB_t, andB_f, orB_t, orB_f, notB_t, notB_f, leI_t, leI_f, ltI_t, ltI_f, eqI_t, eqI_f, leN_t, leN_f, eqN_t, eqN_f, eqS_t, eqS_f, eqB_t, eqB_f, catOk_t, leC_t] at h; omega
    refine ⟨⟨a.length, by omega, 0, rfl, by omega, rfl⟩, ?_⟩
    rintro _ m ⟨j, rfl, hj, hp⟩
    dsimp only
    rw [br_iff]
    refine ⟨fun hlt => ?_, fun hge => ?_⟩
    · have hlt : j < a.length := by simp only [br_iff, need_iff, andB_t, andB_f, orB_t, orB_f, notB_t, notB_f, leI_t, leI_f, ltI_t, ltI_f, eqI_t, eqI_f, leN_t, leN_f, eqN_t, eqN_f, eqS_t, eqS_f, eqB_t, eqB_f, catOk_t, leC_t] at hlt; omega
      have hlt2 : j < b.length := by omega
      have gf : a[j]? = some a[j] := List.getElem?_eq_getElem hlt
      generalize a[j] = f at gf
      have rf := fidsV_row gf
      have kf : okRow (fidsV a) (Int.toNat (j : Int)) 7 = true := by simpa using fidsV_ok (l := a) (i := j) hlt
      have nf : andB (leI 0 (j : Int)) (ltI (j : Int) (a.length : Int)) = true := by simp only [br_iff, need_iff, andB_t, andB_f, orB_t, orB_f, notB_t, notB_f, leI_t, leI_f, ltI_t, ltI_f, eqI_t, eqI_f, leN_t, leN_f, eqN_t, eqN_f, eqS_t, eqS_f, eqB_t, eqB_f, catOk_t, leC_t]; omega
      have gg : b[j]? = some b[j] := List.getElem?_eq_getElem hlt2
      generalize b[j] = g at gg
      have rg := fidsV_row gg
      have kg : okRow (fidsV b) (Int.toNat (j : Int)) 7 = true := by simpa using fidsV_ok (l := b) (i := j) hlt2
      have ng : andB (leI 0 (j : Int)) (ltI (j : Int) (b.length : Int)) = true := by simp only [br_iff, need_iff, andB_t, andB_f, orB_t, orB_f, notB_t, notB_f, leI_t, leI_f, ltI_t, ltI_f, eqI_t, eqI_f, leN_t, leN_f, eqN_t, eqN_f, eqS_t, eqS_f, eqB_t, eqB_f, catOk_t, leC_t]; omega
      rw [need_iff, need_iff]
      refine ⟨nf, kf, ?_⟩
      try rw [rf]
      repeat apply Exists.intro
      refine ⟨rfl, ?_⟩
      rw [need_iff, need_iff]
      refine ⟨ng, kg, ?_⟩
      try rw [rg]
      repeat apply Exists.intro
      refine ⟨rfl, ?_⟩
      rw [br_iff]
      refine ⟨fun q => no ?_, fun q => ⟨by trivial, m - 1, by omega, j + 1, by rw [addI_i64 (by omega) (by omega)]; rfl, by omega, ?_⟩⟩
      · rintro rfl
        obtain rfl := Option.some.inj (gf.symm.trans gg)
        simp [strEq] at q
      · have : f = g := by
          cases f; cases g
          simp [strEq] at q
          simp [q]
        subst this
        exact take_eq_succ gf gg hp
    · have : j = a.length := by simp only [br_iff, need_iff, andB_t, andB_f, orB_t, orB_f, notB_t, notB_f, leI_t, leI_f, ltI_t, ltI_f, eqI_t, eqI_f, leN_t, leN_f, eqN_t, eqN_f, eqS_t, eqS_f, eqB_t, eqB_f, catOk_t, leC_t] at hge; omega
      subst this
      rw [List.take_length, hl, List.take_length] at hp
      rw [eqFids_t.2 hp] at hK
      exact hK
  · exact h.elim
end Go.Proofs.YtjilikmpfmifkaaDoor
namespace Go.Proofs.YtjilikmpfmifkaaDoor
open Go.RowKit
set_option maxRecDepth 100000
set_option linter.unusedVariables false
set_option linter.unusedSimpArgs false
def delCon : Con := fun vs bs K => match vs, bs with
  | [.ref 0 0 n m, .int .i64 i, .int .i64 j], [⟨true, false, true, xs⟩] => ∃ l : List Sess, ∃ k : Nat, xs = sessV l ∧ n = l.length ∧ m = l.length ∧ i = (k : Int) ∧ j = (k : Int) + 1 ∧ k < l.length ∧ l.length ≤ 100000 ∧
      ∀ ys, K (.ref 0 0 (l.length - 1) l.length) [⟨true, false, true, sessV (l.eraseIdx k) ++ ys⟩]
  | _, _ => False

structure ssC where
  xs : List (List V)
  ys : List (List V)
  cnt : Int
structure ssX where
  i : Int
def ssSt (c : ssC) (x : ssX) : St := ⟨[(0, .lst c.xs), (1, .lst c.ys), (12, .int .i64 c.cnt), (13, .int .i64 x.i)], []⟩
def ssUn (s : St) : Option (ssC × ssX) :=
  match s with
  | ⟨[(q0, .lst xs), (q1, .lst ys), (q2, .int .i64 cnt), (q3, .int .i64 i)], []⟩ => bif Nat.beq q0 0 && Nat.beq q1 1 && Nat.beq q2 12 && Nat.beq q3 13 then some (⟨xs, ys, cnt⟩, ⟨i⟩) else none
  | _ => none
def ssL (inv : ssC → ssX → ssX → Nat → Prop) : LoopS where
  C := ssC
  X := ssX
  st := ssSt
  un := ssUn
  ok := by
    intro s c x h
    unfold ssUn at h
    split at h
    · simp only [Bool.cond_eq_ite] at h
      split at h
      · rename_i hg
        simp only [Bool.and_eq_true, Nat.beq_eq] at hg
        obtain ⟨⟨⟨rfl, rfl⟩, rfl⟩, rfl⟩ := hg
        cases h
        rfl
      · cases h
    · cases h
  inv := inv

structure seC where
  now : Int
  xs : List (List V)
  cnt : Int
structure seX where
  ys : List (List V)
  n : Nat
  k : Nat
  zs : List (List V)
  p : Nat
  q : Nat
  i : Int
def seSt (c : seC) (x : seX) : St := ⟨[(1, .int .i64 c.now), (6, .ref 0 0 x.n x.k), (7, .ref 1 0 x.p x.q), (11, .lst c.xs), (12, .int .i64 c.cnt), (13, .int .i64 x.i)], [(0, ⟨true, false, true, x.ys⟩), (1, ⟨true, false, true, x.zs⟩)]⟩
def seUn (s : St) : Option (seC × seX) :=
  match s with
  | ⟨[(q0, .int .i64 now), (q1, .ref q2 q3 n k), (q4, .ref q5 q6 p q), (q7, .lst xs), (q8, .int .i64 cnt), (q9, .int .i64 i)], [(q10, ⟨true, false, true, ys⟩), (q11, ⟨true, false, true, zs⟩)]⟩ => bif Nat.beq q0 1 && Nat.beq q1 6 && Nat.beq q2 0 && Nat.beq q3 0 && Nat.beq q4 7 && Nat.beq q5 1 && Nat.beq q6 0 && Nat.beq q7 11 && Nat.beq q8 12 && Nat.beq q9 13 && Nat.beq q10 0 && Nat.beq q11 1 then some (⟨now, xs, cnt⟩, ⟨ys, n, k, zs, p, q, i⟩) else none
  | _ => none
def seL (inv : seC → seX → seX → Nat → Prop) : LoopS where
  C := seC
  X := seX
  st := seSt
  un := seUn
  ok := by
    intro s c x h
    unfold seUn at h
    split at h
    · simp only [Bool.cond_eq_ite] at h
      split at h
      · rename_i hg
        simp only [Bool.and_eq_true, Nat.beq_eq] at hg
        obtain ⟨⟨⟨⟨⟨⟨⟨⟨⟨⟨⟨rfl, rfl⟩, rfl⟩, rfl⟩, rfl⟩, rfl⟩, rfl⟩, rfl⟩, rfl⟩, rfl⟩, rfl⟩, rfl⟩ := hg
        cases h
        rfl
      · cases h
    · cases h
  inv := inv

structure reC where
  xs : List (List V)
  now : Int
  cnt : Int
structure reX where
  ys : List (List V)
  n : Nat
  k : Nat
  zs : List (List V)
  p : Nat
  q : Nat
  i : Int
def reSt (c : reC) (x : reX) : St := ⟨[(0, .lst c.xs), (1, .int .i64 c.now), (6, .ref 0 0 x.n x.k), (7, .ref 1 0 x.p x.q), (10, .int .i64 c.cnt), (11, .int .i64 x.i)], [(0, ⟨true, false, true, x.ys⟩), (1, ⟨true, false, true, x.zs⟩)]⟩
def reUn (s : St) : Option (reC × reX) :=
  match s with
  | ⟨[(q0, .lst xs), (q1, .int .i64 now), (q2, .ref q3 q4 n k), (q5, .ref q6 q7 p q), (q8, .int .i64 cnt), (q9, .int .i64 i)], [(q10, ⟨true, false, true, ys⟩), (q11, ⟨true, false, true, zs⟩)]⟩ => bif Nat.beq q0 0 && Nat.beq q1 1 && Nat.beq q2 6 && Nat.beq q3 0 && Nat.beq q4 0 && Nat.beq q5 7 && Nat.beq q6 1 && Nat.beq q7 0 && Nat.beq q8 10 && Nat.beq q9 11 && Nat.beq q10 0 && Nat.beq q11 1 then some (⟨xs, now, cnt⟩, ⟨ys, n, k, zs, p, q, i⟩) else none
  | _ => none
def reL (inv : reC → reX → reX → Nat → Prop) : LoopS where
  C := reC
  X := reX
  st := reSt
  un := reUn
  ok := by
    intro s c x h
    unfold reUn at h
    split at h
    · simp only [Bool.cond_eq_ite] at h
      split at h
      · rename_i hg
        simp only [Bool.and_eq_true, Nat.beq_eq] at hg
        obtain ⟨⟨⟨⟨⟨⟨⟨⟨⟨⟨⟨rfl, rfl⟩, rfl⟩, rfl⟩, rfl⟩, rfl⟩, rfl⟩, rfl⟩, rfl⟩, rfl⟩, rfl⟩, rfl⟩ := hg
        cases h
        rfl
      · cases h
    · cases h
  inv := inv

theorem ss_vc (xs ys : List (List V)) (I : ssC → ssX → ssX → Nat → Prop) (K : V → List Bk → Prop) : vcF Tryd.prog cfgN (ctOf [(24, sfCon)]) (lpOf [(4, ssL I)]) 19 [.lst xs, .lst ys] [] K = (
  br (notB (eqI (lenL xs) (lenL ys))) (
    K (V.bool false) []) (
    (∃ m4 : Nat, (m4 < 18446744073709551616) ∧ (
    I (ssC.mk xs ys (lenL xs)) (ssX.mk 0) (ssX.mk 0) m4)) ∧ (
    ∀ x4 : (ssL I).X, ∀ m5 : Nat, (I (ssC.mk xs ys (lenL xs)) (ssX.mk 0) x4 m5) → (
    br (ltI x4.1 (lenL xs)) (
      need (andB (leI 0 x4.1) (ltI x4.1 (lenL xs))) (
      need (okRow xs x4.1.toNat 3) (
      ∃ s6 : List UInt8, ((sub (rowAt xs x4.1) 0 1 : Option (List V)) = some [V.str s6]) ∧ (
      need (andB (leI 0 x4.1) (ltI x4.1 (lenL ys))) (
      need (okRow ys x4.1.toNat 3) (
      ∃ s7 : List UInt8, ((sub (rowAt ys x4.1) 0 1 : Option (List V)) = some [V.str s7]) ∧ (
      br (notB (eqS s6 s7)) (
        K (V.bool false) []) (
        need (andB (leI 0 x4.1) (ltI x4.1 (lenL xs))) (
        need (okRow xs x4.1.toNat 3) (
        ∃ n8 : Int, ((sub (rowAt xs x4.1) 2 1 : Option (List V)) = some [V.int IntKind.i64 n8]) ∧ (
        need (andB (leI 0 x4.1) (ltI x4.1 (lenL ys))) (
        need (okRow ys x4.1.toNat 3) (
        ∃ n9 : Int, ((sub (rowAt ys x4.1) 2 1 : Option (List V)) = some [V.int IntKind.i64 n9]) ∧ (
        br (notB (eqI n8 n9)) (
          K (V.bool false) []) (
          need (andB (leI 0 x4.1) (ltI x4.1 (lenL xs))) (
          need (okRow xs x4.1.toNat 3) (
          ∃ xs10 : List (List V), ((sub (rowAt xs x4.1) 1 1 : Option (List V)) = some [V.lst xs10]) ∧ (
          need (andB (leI 0 x4.1) (ltI x4.1 (lenL ys))) (
          need (okRow ys x4.1.toNat 3) (
          ∃ xs11 : List (List V), ((sub (rowAt ys x4.1) 1 1 : Option (List V)) = some [V.lst xs11]) ∧ (
          ∃ a12 : List Fid, ∃ b13 : List Fid, ((xs10 : List (List V)) = fidsV a12) ∧ (
          ((xs11 : List (List V)) = fidsV b13) ∧ (
          (a12.length ≤ 100000) ∧ (
          br (notB (eqFids a12 b13)) (
            K (V.bool false) []) (
            ((ssC.mk xs ys (lenL xs) : (ssL I).C) = ssC.mk xs ys (lenL xs)) ∧ (
            ∃ m'14 : Nat, (m'14 < m5) ∧ (
            I (ssC.mk xs ys (lenL xs)) (ssX.mk 0) (ssX.mk (addI IntKind.i64 x4.1 1)) m'14))))))))))))))))))))))))))) (
      K (V.bool true) []))))) := by kernel_rfl

theorem del_vc (xs : List (List V)) (n m : Nat) (i j : Int) (K : V → List Bk → Prop) : vcF Tryd.prog cfgN (ctOf []) (lpOf []) 37 [.ref 0 0 n m, .int .i64 i, .int .i64 j] [⟨true, false, true, xs⟩] K = delP 3 48 [.str [], .nils, .int .i64 0] xs n m i j K := by kernel_rfl

theorem kp_vc (xs : List (List V)) (s : List UInt8) (ys : List (List V)) (t : Int) (K : V → List Bk → Prop) : vcF Tryd.prog cfgN (ctOf [(35, cpCon), (15, valCon), (28, fidsCon), (27, atCon)]) (lpOf []) 17 [.lst xs, .str s, .lst ys, .int .i64 t] [] K = (
  ∃ l5 : List Sess, ((xs : List (List V)) = sessV l5) ∧ (
  (l5.length ≤ 100000) ∧ (
  (okF l5) ∧ (
  need (leC (Int.ofNat s.length) 4611686018427387904) (
  br (notB (validF s)) (
    K (V.tup [V.lst (List.take l5.length (List.drop 0 (sessV l5))), V.int IntKind.i64 6]) []) (
    br (ltI t 0) (
      K (V.tup [V.lst (List.take l5.length (List.drop 0 (sessV l5))), V.int IntKind.i64 5]) []) (
      br (ltI 1099511627840 t) (
        K (V.tup [V.lst (List.take l5.length (List.drop 0 (sessV l5))), V.int IntKind.i64 5]) []) (
        ∃ l6 : List Fid, ((ys : List (List V)) = fidsV l6) ∧ (
        br (notB (fidsB l6)) (
          K (V.tup [V.lst (List.take l5.length (List.drop 0 (sessV l5))), V.int IntKind.i64 1]) []) (
          ∃ l7 : List Sess, ((xs : List (List V)) = sessV l7) ∧ (
          (l7.length ≤ 100000) ∧ (
          br (leI 0 (idxF l7 s)) (
            K (V.tup [V.lst (List.take l5.length (List.drop 0 (sessV l5))), V.int IntKind.i64 7]) []) (
            br (leI 16 (lenL xs)) (
              K (V.tup [V.lst (List.take l5.length (List.drop 0 (sessV l5))), V.int IntKind.i64 22]) []) (
              need (headOkP 7 ys) (
              need (leN (ys.length * 56) 140737488355328) (
              need (headOkP 3 (sessV l5)) (
              br (leN (l5.length + 1) l5.length) (
                K (V.tup [V.lst (List.take (l5.length + 1) (List.drop 0 (List.take (0 + l5.length) (sessV l5) ++ [[V.str s, V.lst (List.take ys.length (List.drop 0 ys)), V.int IntKind.i64 t]] ++ List.drop (0 + l5.length + 1) (sessV l5)))), V.int IntKind.i64 0]) []) (
                need (eqN (0 + l5.length) (sessV l5).length) (
                need (leN ((l5.length + 1) * 48) 140737488355328) (
                K (V.tup [V.lst (List.take (l5.length + 1) (List.drop 0 (List.drop 0 (sessV l5) ++ [[V.str s, V.lst (List.take ys.length (List.drop 0 ys)), V.int IntKind.i64 t]]))), V.int IntKind.i64 0]) [])))))))))))))))))))) := by kernel_rfl

theorem rk_vc (xs : List (List V)) (s : List UInt8) (ys : List (List V)) (t : Int) (K : V → List Bk → Prop) : vcF Tryd.prog cfgN (ctOf [(29, valCon), (31, fidsCon), (30, atCon), (32, inlC Tryd.prog cfgN (ctOf []) 32)]) (lpOf []) 18 [.lst xs, .str s, .lst ys, .int .i64 t] [] K = (
  need (leC (Int.ofNat s.length) 4611686018427387904) (
  br (notB (validF s)) (
    K (V.tup [V.lst xs, V.int IntKind.i64 6]) []) (
    br (leI 0 t) (
      br (notB (leI t 1099511627840)) (
        K (V.tup [V.lst xs, V.int IntKind.i64 5]) []) (
        ∃ l5 : List Fid, ((ys : List (List V)) = fidsV l5) ∧ (
        br (notB (fidsB l5)) (
          K (V.tup [V.lst xs, V.int IntKind.i64 1]) []) (
          ∃ l6 : List Sess, ((xs : List (List V)) = sessV l6) ∧ (
          (l6.length ≤ 100000) ∧ (
          br (leI 0 (idxF l6 s)) (
            K (V.tup [V.lst xs, V.int IntKind.i64 7]) []) (
            br (leI 16 (lenL xs)) (
              K (V.tup [V.lst xs, V.int IntKind.i64 22]) []) (
              need (headOkP 7 ys) (
              need (leN (ys.length * 56) 140737488355328) (
              need (headOkP 3 xs) (
              need (leN (xs.length * 48) 140737488355328) (
              need (headOkP 3 xs) (
              br (leN (xs.length + 1) xs.length) (
                K (V.tup [V.lst (List.take (xs.length + 1) (List.drop 0 (List.take (0 + xs.length) xs ++ [[V.str s, V.lst (List.take ys.length (List.drop 0 ys)), V.int IntKind.i64 t]] ++ List.drop (0 + xs.length + 1) xs))), V.int IntKind.i64 0]) []) (
                need (eqN (0 + xs.length) xs.length) (
                need (leN ((xs.length + 1) * 48) 140737488355328) (
                K (V.tup [V.lst (List.take (xs.length + 1) (List.drop 0 (List.drop 0 xs ++ [[V.str s, V.lst (List.take ys.length (List.drop 0 ys)), V.int IntKind.i64 t]]))), V.int IntKind.i64 0]) [])))))))))))))))) (
      K (V.tup [V.lst xs, V.int IntKind.i64 5]) [])))) := by kernel_rfl

theorem rs_vc (xs : List (List V)) (s : List UInt8) (t : Int) (K : V → List Bk → Prop) : vcF Tryd.prog cfgN (ctOf [(35, cpCon), (27, atCon), (37, delCon)]) (lpOf []) 20 [.lst xs, .str s, .int .i64 t] [] K = (
  ∃ l4 : List Sess, ((xs : List (List V)) = sessV l4) ∧ (
  (l4.length ≤ 100000) ∧ (
  (okF l4) ∧ (
  ∃ l5 : List Sess, ((xs : List (List V)) = sessV l5) ∧ (
  (l5.length ≤ 100000) ∧ (
  br (ltI (idxF l5 s) 0) (
    K (V.tup [V.lst (List.take l4.length (List.drop 0 (sessV l4))), V.lst [], V.int IntKind.i64 31]) []) (
    need (andB (leI 0 (idxF l5 s)) (ltI (idxF l5 s) (lenL xs))) (
    need (okRow xs (idxF l5 s).toNat 3) (
    ∃ n6 : Int, ((sub (rowAt xs (idxF l5 s)) 2 1 : Option (List V)) = some [V.int IntKind.i64 n6]) ∧ (
    br (leI n6 t) (
      K (V.tup [V.lst (List.take l4.length (List.drop 0 (sessV l4))), V.lst [], V.int IntKind.i64 31]) []) (
      need (andB (leI 0 (idxF l5 s)) (ltI (idxF l5 s) (Int.ofNat l4.length))) (
      need (okRow (sessV l4) (0 + (idxF l5 s).toNat) 3) (
      ∃ xs7 : List (List V), ((partAt (sessV l4) (0 + (idxF l5 s).toNat) 1 1 : Option (List V)) = some [V.lst xs7]) ∧ (
      ∃ l8 : List Sess, ∃ k9 : Nat, ((sessV l4 : List (List V)) = sessV l8) ∧ (
      ((l4.length : Nat) = l8.length) ∧ (
      ((l4.length : Nat) = l8.length) ∧ (
      ((idxF l5 s : Int) = Int.ofNat k9) ∧ (
      ((addI IntKind.i64 (idxF l5 s) 1 : Int) = Int.ofNat k9 + 1) ∧ (
      (k9 < l8.length) ∧ (
      (l8.length ≤ 100000) ∧ (
      ∀ ys10 : List (List V), K (V.tup [V.lst (List.take (l8.length - 1) (List.drop 0 (sessV (l8.eraseIdx k9) ++ ys10))), V.lst xs7, V.int IntKind.i64 0]) []))))))))))))))))))))) := by kernel_rfl

theorem rr2_vc (xs : List (List V)) (s : List UInt8) (t : Int) (K : V → List Bk → Prop) : vcF Tryd.prog cfgN (ctOf [(30, atCon)]) (lpOf []) 21 [.lst xs, .str s, .int .i64 t] [] K = (
  ∃ l4 : List Sess, ((xs : List (List V)) = sessV l4) ∧ (
  (l4.length ≤ 100000) ∧ (
  br (ltI (idxF l4 s) 0) (
    K (V.tup [V.lst xs, V.lst [], V.int IntKind.i64 31]) []) (
    need (andB (leI 0 (idxF l4 s)) (ltI (idxF l4 s) (lenL xs))) (
    need (okRow xs (idxF l4 s).toNat 3) (
    ∃ n5 : Int, ((sub (rowAt xs (idxF l4 s)) 2 1 : Option (List V)) = some [V.int IntKind.i64 n5]) ∧ (
    br (leI n5 t) (
      K (V.tup [V.lst xs, V.lst [], V.int IntKind.i64 31]) []) (
      need (headOkP 3 xs) (
      need (andB (leI 0 (idxF l4 s)) (leI (idxF l4 s) (lenL xs))) (
      need (headOkP 3 (cutL xs 0 (idxF l4 s))) (
      need (leN ((cutL xs 0 (idxF l4 s)).length * 48) 140737488355328) (
      need (headOkP 3 xs) (
      need (andB (leI 0 (addI IntKind.i64 (idxF l4 s) 1)) (leI (addI IntKind.i64 (idxF l4 s) 1) (lenL xs))) (
      need (headOkP 3 (cutL xs (addI IntKind.i64 (idxF l4 s) 1) (lenL xs))) (
      need (headOkP 3 (cutL xs 0 (idxF l4 s))) (
      br (leN ((cutL xs 0 (idxF l4 s)).length + (cutL xs (addI IntKind.i64 (idxF l4 s) 1) (lenL xs)).length) (cutL xs 0 (idxF l4 s)).length) (
        need (andB (leI 0 (idxF l4 s)) (ltI (idxF l4 s) (lenL xs))) (
        need (okRow xs (idxF l4 s).toNat 3) (
        ∃ xs6 : List (List V), ((sub (rowAt xs (idxF l4 s)) 1 1 : Option (List V)) = some [V.lst xs6]) ∧ (
        K (V.tup [V.lst (List.take ((cutL xs 0 (idxF l4 s)).length + (cutL xs (addI IntKind.i64 (idxF l4 s) 1) (lenL xs)).length) (List.drop 0 (List.take (0 + (cutL xs 0 (idxF l4 s)).length) (cutL xs 0 (idxF l4 s)) ++ cutL xs (addI IntKind.i64 (idxF l4 s) 1) (lenL xs) ++ List.drop (0 + (cutL xs 0 (idxF l4 s)).length + (cutL xs (addI IntKind.i64 (idxF l4 s) 1) (lenL xs)).length) (cutL xs 0 (idxF l4 s))))), V.lst xs6, V.int IntKind.i64 0]) [])))) (
        need (eqN (0 + (cutL xs 0 (idxF l4 s)).length) (cutL xs 0 (idxF l4 s)).length) (
        need (leN (((cutL xs 0 (idxF l4 s)).length + (cutL xs (addI IntKind.i64 (idxF l4 s) 1) (lenL xs)).length) * 48) 140737488355328) (
        need (andB (leI 0 (idxF l4 s)) (ltI (idxF l4 s) (lenL xs))) (
        need (okRow xs (idxF l4 s).toNat 3) (
        ∃ xs6 : List (List V), ((sub (rowAt xs (idxF l4 s)) 1 1 : Option (List V)) = some [V.lst xs6]) ∧ (
        K (V.tup [V.lst (List.take ((cutL xs 0 (idxF l4 s)).length + (cutL xs (addI IntKind.i64 (idxF l4 s) 1) (lenL xs)).length) (List.drop 0 (List.drop 0 (cutL xs 0 (idxF l4 s)) ++ cutL xs (addI IntKind.i64 (idxF l4 s) 1) (lenL xs)))), V.lst xs6, V.int IntKind.i64 0]) [])))))))))))))))))))))) := by kernel_rfl

theorem se_vc (xs : List (List V)) (t : Int) (I : seC → seX → seX → Nat → Prop) (K : V → List Bk → Prop) : vcF Tryd.prog cfgN (ctOf [(35, cpCon)]) (lpOf [(4, seL I)]) 22 [.lst xs, .int .i64 t] [] K = (
  ∃ l4 : List Sess, ((xs : List (List V)) = sessV l4) ∧ (
  (l4.length ≤ 100000) ∧ (
  (okF l4) ∧ (
  (∃ m5 : Nat, (m5 < 18446744073709551616) ∧ (
  I (seC.mk t (List.take l4.length (List.drop 0 (sessV l4))) (Int.ofNat l4.length)) (seX.mk [] 0 0 [] 0 0 0) (seX.mk [] 0 0 [] 0 0 0) m5)) ∧ (
  ∀ x5 : (seL I).X, ∀ m6 : Nat, (I (seC.mk t (List.take l4.length (List.drop 0 (sessV l4))) (Int.ofNat l4.length)) (seX.mk [] 0 0 [] 0 0 0) x5 m6) → (
  br (ltI x5.7 (Int.ofNat l4.length)) (
    need (andB (leI 0 x5.7) (ltI x5.7 (lenL (List.take l4.length (List.drop 0 (sessV l4)))))) (
    need (okRow (List.take l4.length (List.drop 0 (sessV l4))) x5.7.toNat 3) (
    ∃ s7 : List UInt8, ∃ xs8 : List (List V), ∃ n9 : Int, ((sub (rowAt (List.take l4.length (List.drop 0 (sessV l4))) x5.7) 0 3 : Option (List V)) = some [V.str s7, V.lst xs8, V.int IntKind.i64 n9]) ∧ (
    br (ltI t n9) (
      need (headOkP 3 x5.1) (
      br (leN (x5.2 + 1) x5.3) (
        ((seC.mk t (List.take l4.length (List.drop 0 (sessV l4))) (Int.ofNat l4.length) : (seL I).C) = seC.mk t (List.take l4.length (List.drop 0 (sessV l4))) (Int.ofNat l4.length)) ∧ (
        ∃ m'10 : Nat, (m'10 < m6) ∧ (
        I (seC.mk t (List.take l4.length (List.drop 0 (sessV l4))) (Int.ofNat l4.length)) (seX.mk [] 0 0 [] 0 0 0) (seX.mk (List.take (0 + x5.2) x5.1 ++ [[V.str s7, V.lst xs8, V.int IntKind.i64 n9]] ++ List.drop (0 + x5.2 + 1) x5.1) (x5.2 + 1) x5.3 x5.4 x5.5 x5.6 (addI IntKind.i64 x5.7 1)) m'10))) (
        need (eqN (0 + x5.2) x5.1.length) (
        need (leN ((x5.2 + 1) * 48) 140737488355328) (
        ((seC.mk t (List.take l4.length (List.drop 0 (sessV l4))) (Int.ofNat l4.length) : (seL I).C) = seC.mk t (List.take l4.length (List.drop 0 (sessV l4))) (Int.ofNat l4.length)) ∧ (
        ∃ m'10 : Nat, (m'10 < m6) ∧ (
        I (seC.mk t (List.take l4.length (List.drop 0 (sessV l4))) (Int.ofNat l4.length)) (seX.mk [] 0 0 [] 0 0 0) (seX.mk (List.drop 0 x5.1 ++ [[V.str s7, V.lst xs8, V.int IntKind.i64 n9]]) (x5.2 + 1) (x5.2 + 1) x5.4 x5.5 x5.6 (addI IntKind.i64 x5.7 1)) m'10))))))) (
      need (headOkP 7 xs8) (
      need (headOkP 7 x5.4) (
      br (leN (x5.5 + xs8.length) x5.6) (
        ((seC.mk t (List.take l4.length (List.drop 0 (sessV l4))) (Int.ofNat l4.length) : (seL I).C) = seC.mk t (List.take l4.length (List.drop 0 (sessV l4))) (Int.ofNat l4.length)) ∧ (
        ∃ m'10 : Nat, (m'10 < m6) ∧ (
        I (seC.mk t (List.take l4.length (List.drop 0 (sessV l4))) (Int.ofNat l4.length)) (seX.mk [] 0 0 [] 0 0 0) (seX.mk x5.1 x5.2 x5.3 (List.take (0 + x5.5) x5.4 ++ xs8 ++ List.drop (0 + x5.5 + xs8.length) x5.4) (x5.5 + xs8.length) x5.6 (addI IntKind.i64 x5.7 1)) m'10))) (
        need (eqN (0 + x5.5) x5.4.length) (
        need (leN ((x5.5 + xs8.length) * 56) 140737488355328) (
        ((seC.mk t (List.take l4.length (List.drop 0 (sessV l4))) (Int.ofNat l4.length) : (seL I).C) = seC.mk t (List.take l4.length (List.drop 0 (sessV l4))) (Int.ofNat l4.length)) ∧ (
        ∃ m'10 : Nat, (m'10 < m6) ∧ (
        I (seC.mk t (List.take l4.length (List.drop 0 (sessV l4))) (Int.ofNat l4.length)) (seX.mk [] 0 0 [] 0 0 0) (seX.mk x5.1 x5.2 x5.3 (List.drop 0 x5.4 ++ xs8) (x5.5 + xs8.length) (x5.5 + xs8.length) (addI IntKind.i64 x5.7 1)) m'10)))))))))))) (
    K (V.tup [V.lst (List.take x5.2 (List.drop 0 x5.1)), V.lst (List.take x5.5 (List.drop 0 x5.4))]) []))))))) := by kernel_rfl

theorem re_vc (xs : List (List V)) (t : Int) (I : reC → reX → reX → Nat → Prop) (K : V → List Bk → Prop) : vcF Tryd.prog cfgN (ctOf []) (lpOf [(4, reL I)]) 23 [.lst xs, .int .i64 t] [] K = (
  (∃ m4 : Nat, (m4 < 18446744073709551616) ∧ (
  I (reC.mk xs t (lenL xs)) (reX.mk [] 0 0 [] 0 0 0) (reX.mk [] 0 0 [] 0 0 0) m4)) ∧ (
  ∀ x4 : (reL I).X, ∀ m5 : Nat, (I (reC.mk xs t (lenL xs)) (reX.mk [] 0 0 [] 0 0 0) x4 m5) → (
  br (ltI x4.7 (lenL xs)) (
    need (andB (leI 0 x4.7) (ltI x4.7 (lenL xs))) (
    need (okRow xs x4.7.toNat 3) (
    ∃ n6 : Int, ((sub (rowAt xs x4.7) 2 1 : Option (List V)) = some [V.int IntKind.i64 n6]) ∧ (
    br (leI n6 t) (
      need (andB (leI 0 x4.7) (ltI x4.7 (lenL xs))) (
      need (okRow xs x4.7.toNat 3) (
      ∃ xs7 : List (List V), ((sub (rowAt xs x4.7) 1 1 : Option (List V)) = some [V.lst xs7]) ∧ (
      need (headOkP 7 xs7) (
      need (headOkP 7 x4.4) (
      br (leN (x4.5 + xs7.length) x4.6) (
        ((reC.mk xs t (lenL xs) : (reL I).C) = reC.mk xs t (lenL xs)) ∧ (
        ∃ m'8 : Nat, (m'8 < m5) ∧ (
        I (reC.mk xs t (lenL xs)) (reX.mk [] 0 0 [] 0 0 0) (reX.mk x4.1 x4.2 x4.3 (List.take (0 + x4.5) x4.4 ++ xs7 ++ List.drop (0 + x4.5 + xs7.length) x4.4) (x4.5 + xs7.length) x4.6 (addI IntKind.i64 x4.7 1)) m'8))) (
        need (eqN (0 + x4.5) x4.4.length) (
        need (leN ((x4.5 + xs7.length) * 56) 140737488355328) (
        ((reC.mk xs t (lenL xs) : (reL I).C) = reC.mk xs t (lenL xs)) ∧ (
        ∃ m'8 : Nat, (m'8 < m5) ∧ (
        I (reC.mk xs t (lenL xs)) (reX.mk [] 0 0 [] 0 0 0) (reX.mk x4.1 x4.2 x4.3 (List.drop 0 x4.4 ++ xs7) (x4.5 + xs7.length) (x4.5 + xs7.length) (addI IntKind.i64 x4.7 1)) m'8))))))))))) (
      need (andB (leI 0 x4.7) (ltI x4.7 (lenL xs))) (
      need (okRow xs x4.7.toNat 3) (
      ∃ s7 : List UInt8, ∃ xs8 : List (List V), ∃ n9 : Int, ((sub (rowAt xs x4.7) 0 3 : Option (List V)) = some [V.str s7, V.lst xs8, V.int IntKind.i64 n9]) ∧ (
      need (headOkP 3 x4.1) (
      br (leN (x4.2 + 1) x4.3) (
        ((reC.mk xs t (lenL xs) : (reL I).C) = reC.mk xs t (lenL xs)) ∧ (
        ∃ m'10 : Nat, (m'10 < m5) ∧ (
        I (reC.mk xs t (lenL xs)) (reX.mk [] 0 0 [] 0 0 0) (reX.mk (List.take (0 + x4.2) x4.1 ++ [[V.str s7, V.lst xs8, V.int IntKind.i64 n9]] ++ List.drop (0 + x4.2 + 1) x4.1) (x4.2 + 1) x4.3 x4.4 x4.5 x4.6 (addI IntKind.i64 x4.7 1)) m'10))) (
        need (eqN (0 + x4.2) x4.1.length) (
        need (leN ((x4.2 + 1) * 48) 140737488355328) (
        ((reC.mk xs t (lenL xs) : (reL I).C) = reC.mk xs t (lenL xs)) ∧ (
        ∃ m'10 : Nat, (m'10 < m5) ∧ (
        I (reC.mk xs t (lenL xs)) (reX.mk [] 0 0 [] 0 0 0) (reX.mk (List.drop 0 x4.1 ++ [[V.str s7, V.lst xs8, V.int IntKind.i64 n9]]) (x4.2 + 1) (x4.2 + 1) x4.4 x4.5 x4.6 (addI IntKind.i64 x4.7 1)) m'10)))))))))))))) (
    K (V.tup [V.lst (List.take x4.2 (List.drop 0 x4.1)), V.lst (List.take x4.5 (List.drop 0 x4.4))]) [])))) := by kernel_rfl

end Go.Proofs.YtjilikmpfmifkaaDoor
namespace Go.Proofs.YtjilikmpfmifkaaDoor
open Go.RowKit
set_option maxRecDepth 100000
set_option linter.unusedVariables false
set_option linter.unusedSimpArgs false
theorem del_con {n : Nat} (hn : 1 ≤ n) : ConOk (evalF Tryd.prog cfgN n) 37 delCon := by
  intro vs bs K h
  unfold delCon at h
  split at h
  · obtain ⟨l, k, rfl, rfl, rfl, rfl, rfl, hk, hb, hK⟩ := h
    refine run_of (lp := lpOf []) hn (fun k _ => noCt_ok _) ?_
    rw [del_vc]
    have hl := sessV_len l
    have := delP_of (z := 3) (b := 48) (Z := [.str [], .nils, .int .i64 0]) (xs := sessV l) (k := k) (K := K) (fun r hr => by
      obtain ⟨s, _, rfl⟩ := List.mem_map.1 hr
      rfl) (by omega) (by omega) (fun ys => by
        rw [hl, show (sessV l).eraseIdx k = sessV (l.eraseIdx k) from by simp [sessV, List.eraseIdx_eq_take_drop_succ, List.map_take, List.map_drop]]
        exact hK ys)
    rw [hl] at this
    exact this
  · exact h.elim
noncomputable def eqSess (a b : List Sess) : Bool := @decide (a = b) (Classical.propDecidable _)
theorem eqSess_t {a b : List Sess} : eqSess a b = true ↔ a = b := by simp [eqSess]
theorem eqSess_no {a b : List Sess} (h : a ≠ b) : eqSess a b = false := by rw [← Bool.not_eq_true, eqSess_t]; exact h
def ssCon : Con := fun vs bs K => match vs, bs with
  | [.lst xs, .lst ys], [] => ∃ a b : List Sess, xs = sessV a ∧ ys = sessV b ∧ a.length ≤ 1000 ∧ okF a ∧ K (.bool (eqSess a b)) []
  | _, _ => False
def ssI (a b : List Sess) (x : ssX) (m : Nat) : Prop := ∃ j : Nat, x = ⟨(j : Int)⟩ ∧ j + m = a.length ∧ a.take j = b.take j
theorem ss_con {n : Nat} (hn : 2 ≤ n) : ConOk (evalF Tryd.prog cfgN n) 19 ssCon := by
  intro vs bs K h
  unfold ssCon at h
  split at h
  · obtain ⟨a, b, rfl, rfl, h1, h2, hK⟩ := h
    refine run_of (lp := lpOf [(4, ssL fun _ _ x m => ssI a b x m)]) (ct := ctOf [(24, sfCon)]) (by omega) (fun k hk => ctOf_ok (ctOf_cons (sf_con (by omega)) (ctOf_nil _))) ?_
    rw [ss_vc]
    simp only [sessV_lenL]
    have no : a ≠ b → K (.bool false) [] := fun h => by rw [eqSess_no h] at hK; exact hK
    rw [br_iff]
    refine ⟨fun h => no (by rintro rfl; simp only [br_iff, need_iff, andB_t, andB_f, orB_t, orB_f, notB_t, notB_f, leI_t, leI_f, ltI_t, ltI_f, eqI_t, eqI_f, leN_t, leN_f, eqN_t, eqN_f, eqS_t, eqS_f, eqB_t, eqB_f, catOk_t, leC_t] at h; omega), fun h => ?_⟩
    have hl : a.length = b.length := by simp only [br_iff, need_iff, andB_t, andB_f, orB_t, orB_f, notB_t, notB_f, leI_t, leI_f, ltI_t, ltI_f, eqI_t, eqI_f, leN_t, leN_f, eqN_t, eqN_f, eqS_t, eqS_f, eqB_t, eqB_f, catOk_t, leC_t] at h; omega
    refine ⟨⟨a.length, by omega, 0, rfl, by omega, rfl⟩, ?_⟩
    rintro _ m ⟨j, rfl, hj, hp⟩
    dsimp only
    rw [br_iff]
    refine ⟨fun hlt => ?_, fun hge => ?_⟩
    · have hlt : j < a.length := by simp only [br_iff, need_iff, andB_t, andB_f, orB_t, orB_f, notB_t, notB_f, leI_t, leI_f, ltI_t, ltI_f, eqI_t, eqI_f, leN_t, leN_f, eqN_t, eqN_f, eqS_t, eqS_f, eqB_t, eqB_f, catOk_t, leC_t] at hlt; omega
      have hlt2 : j < b.length := by omega
      have gf : a[j]? = some a[j] := List.getElem?_eq_getElem hlt
      generalize a[j] = f at gf
      have rf := sessV_row gf
      have kf : okRow (sessV a) (Int.toNat (j : Int)) 3 = true := by simpa using sessV_ok (l := a) (i := j) hlt
      have nf : andB (leI 0 (j : Int)) (ltI (j : Int) (a.length : Int)) = true := by simp only [br_iff, need_iff, andB_t, andB_f, orB_t, orB_f, notB_t, notB_f, leI_t, leI_f, ltI_t, ltI_f, eqI_t, eqI_f, leN_t, leN_f, eqN_t, eqN_f, eqS_t, eqS_f, eqB_t, eqB_f, catOk_t, leC_t]; omega
      have gg : b[j]? = some b[j] := List.getElem?_eq_getElem hlt2
      generalize b[j] = g at gg
      have rg := sessV_row gg
      have kg : okRow (sessV b) (Int.toNat (j : Int)) 3 = true := by simpa using sessV_ok (l := b) (i := j) hlt2
      have ng : andB (leI 0 (j : Int)) (ltI (j : Int) (b.length : Int)) = true := by simp only [br_iff, need_iff, andB_t, andB_f, orB_t, orB_f, notB_t, notB_f, leI_t, leI_f, ltI_t, ltI_f, eqI_t, eqI_f, leN_t, leN_f, eqN_t, eqN_f, eqS_t, eqS_f, eqB_t, eqB_f, catOk_t, leC_t]; omega
      have ne : f ≠ g → K (.bool false) [] := fun hne => no (by rintro rfl; exact hne (Option.some.inj (gf.symm.trans gg)))
      rw [need_iff, need_iff]
      refine ⟨nf, kf, ?_⟩
      try rw [rf]
      repeat apply Exists.intro
      refine ⟨rfl, ?_⟩
      rw [need_iff, need_iff]
      refine ⟨ng, kg, ?_⟩
      try rw [rg]
      repeat apply Exists.intro
      refine ⟨rfl, ?_⟩
      rw [br_iff]
      refine ⟨fun q => ne (by rintro rfl; simp only [br_iff, need_iff, andB_t, andB_f, orB_t, orB_f, notB_t, notB_f, leI_t, leI_f, ltI_t, ltI_f, eqI_t, eqI_f, leN_t, leN_f, eqN_t, eqN_f, eqS_t, eqS_f, eqB_t, eqB_f, catOk_t, leC_t] at q; exact q rfl), fun q1 => ?_⟩
      rw [need_iff, need_iff]
      refine ⟨nf, kf, ?_⟩
      try rw [rf]
      repeat apply Exists.intro
      refine ⟨rfl, ?_⟩
      rw [need_iff, need_iff]
      refine ⟨ng, kg, ?_⟩
      try rw [rg]
      repeat apply Exists.intro
      refine ⟨rfl, ?_⟩
      rw [br_iff]
      refine ⟨fun q => ne (by rintro rfl; simp only [br_iff, need_iff, andB_t, andB_f, orB_t, orB_f, notB_t, notB_f, leI_t, leI_f, ltI_t, ltI_f, eqI_t, eqI_f, leN_t, leN_f, eqN_t, eqN_f, eqS_t, eqS_f, eqB_t, eqB_f, catOk_t, leC_t] at q; exact q rfl), fun q2 => ?_⟩
      rw [need_iff, need_iff]
      refine ⟨nf, kf, ?_⟩
      try rw [rf]
      repeat apply Exists.intro
      refine ⟨rfl, ?_⟩
      rw [need_iff, need_iff]
      refine ⟨ng, kg, ?_⟩
      try rw [rg]
      repeat apply Exists.intro
      refine ⟨rfl, ?_⟩
      refine ⟨f.fids, g.fids, rfl, rfl, by have := h2 f (List.mem_of_getElem? gf); omega, ?_⟩
      rw [br_iff]
      refine ⟨fun q => ne (by rintro rfl; simp only [br_iff, need_iff, andB_t, andB_f, orB_t, orB_f, notB_t, notB_f, leI_t, leI_f, ltI_t, ltI_f, eqI_t, eqI_f, leN_t, leN_f, eqN_t, eqN_f, eqS_t, eqS_f, eqB_t, eqB_f, catOk_t, leC_t] at q; rw [eqFids_t.2 rfl] at q; cases q), fun q3 => ⟨by trivial, m - 1, by omega, j + 1, by rw [addI_i64 (by omega) (by omega)]; rfl, by omega, ?_⟩⟩
      have : f = g := by
        cases f; cases g
        simp only [br_iff, need_iff, andB_t, andB_f, orB_t, orB_f, notB_t, notB_f, leI_t, leI_f, ltI_t, ltI_f, eqI_t, eqI_f, leN_t, leN_f, eqN_t, eqN_f, eqS_t, eqS_f, eqB_t, eqB_f, catOk_t, leC_t, eqFids_t] at q1 q2 q3
        simp_all
      subst this
      exact take_eq_succ gf gg hp
    · have : j = a.length := by simp only [br_iff, need_iff, andB_t, andB_f, orB_t, orB_f, notB_t, notB_f, leI_t, leI_f, ltI_t, ltI_f, eqI_t, eqI_f, leN_t, leN_f, eqN_t, eqN_f, eqS_t, eqS_f, eqB_t, eqB_f, catOk_t, leC_t] at hge; omega
      subst this
      rw [List.take_length, hl, List.take_length] at hp
      rw [eqSess_t.2 hp] at hK
      exact hK
  · exact h.elim
noncomputable def keepF (l : List Sess) (name : List UInt8) (f : List Fid) (til : Int) : List Sess × Int :=
  if validF name = false then (l, 6) else if til < 0 ∨ 1099511627840 < til then (l, 5) else if fidsB f = false then (l, 1) else if 0 ≤ idxF l name then (l, 7) else if 16 ≤ l.length then (l, 22) else (l ++ [⟨name, f, til⟩], 0)
def keepCon : Con := fun vs bs K => match vs, bs with
  | [.lst xs, .str s, .lst ys, .int .i64 t], [] => ∃ (l : List Sess) (f : List Fid), xs = sessV l ∧ ys = fidsV f ∧ l.length ≤ 1000 ∧ okF l ∧ f.length ≤ 1000 ∧ s.length ≤ 140737488351232 ∧
      K (.tup [.lst (sessV (keepF l s f t).1), .int .i64 (keepF l s f t).2]) []
  | _, _ => False
theorem kp_con {n : Nat} (hn : 4 ≤ n) : ConOk (evalF Tryd.prog cfgN n) 17 keepCon := by
  intro vs bs K h
  unfold keepCon at h
  split at h
  · rename_i xs s ys t
    obtain ⟨l, f, rfl, rfl, h1, h2, h3, h4, hK⟩ := h
    refine run_of (lp := lpOf []) (ct := ctOf [(35, cpCon), (15, valCon), (28, fidsCon), (27, atCon)]) (by omega)
      (fun k hk => ctOf_ok (ctOf_cons (cp_con (by omega)) (ctOf_cons (val_con (by omega)) (ctOf_cons (fids_con (by omega)) (ctOf_cons (find_con (by omega)) (ctOf_nil _)))))) ?_
    rw [kp_vc]
    have e : ∀ {r}, keepF l s f t = r → K (.tup [.lst (sessV r.1), .int .i64 r.2]) [] := fun h => by subst h; exact hK
    refine ⟨l, rfl, by omega, h2, ?_⟩
    simp only [leN_succ, eqN_self, leI_self, br_ff, br_tt, need_tt, andB_tt, List.drop_zero, List.nil_append, List.append_nil, Nat.zero_add, Nat.add_zero, Nat.sub_zero, List.take_length, Int.ofNat_eq_natCast, Int.toNat_natCast, Int.toNat_zero, sessV_len, sessV_lenL, sessV_head, sessV_all, sessV_all1, fidsV_len, fidsV_lenL, fidsV_head, fidsV_all, fidsV_all1]
    rw [need_iff]; refine ⟨by simp only [br_iff, need_iff, andB_t, andB_f, orB_t, orB_f, notB_t, notB_f, leI_t, leI_f, ltI_t, ltI_f, eqI_t, eqI_f, leN_t, leN_f, eqN_t, eqN_f, eqS_t, eqS_f, eqB_t, eqB_f, catOk_t, leC_t]; omega, ?_⟩
    rw [br_iff]; refine ⟨fun g => e (r := (l, 6)) (by simp only [br_iff, need_iff, andB_t, andB_f, orB_t, orB_f, notB_t, notB_f, leI_t, leI_f, ltI_t, ltI_f, eqI_t, eqI_f, leN_t, leN_f, eqN_t, eqN_f, eqS_t, eqS_f, eqB_t, eqB_f, catOk_t, leC_t] at g; simp [keepF, g]), fun g1 => ?_⟩
    rw [br_iff]; refine ⟨fun g => e (r := (l, 5)) (by simp only [br_iff, need_iff, andB_t, andB_f, orB_t, orB_f, notB_t, notB_f, leI_t, leI_f, ltI_t, ltI_f, eqI_t, eqI_f, leN_t, leN_f, eqN_t, eqN_f, eqS_t, eqS_f, eqB_t, eqB_f, catOk_t, leC_t] at g g1; simp [keepF, g, g1]), fun g2 => ?_⟩
    rw [br_iff]; refine ⟨fun g => e (r := (l, 5)) (by simp only [br_iff, need_iff, andB_t, andB_f, orB_t, orB_f, notB_t, notB_f, leI_t, leI_f, ltI_t, ltI_f, eqI_t, eqI_f, leN_t, leN_f, eqN_t, eqN_f, eqS_t, eqS_f, eqB_t, eqB_f, catOk_t, leC_t] at g g1; simp [keepF, g, g1]), fun g3 => ?_⟩
    have hb : ¬ (t < 0 ∨ 1099511627840 < t) := by simp only [br_iff, need_iff, andB_t, andB_f, orB_t, orB_f, notB_t, notB_f, leI_t, leI_f, ltI_t, ltI_f, eqI_t, eqI_f, leN_t, leN_f, eqN_t, eqN_f, eqS_t, eqS_f, eqB_t, eqB_f, catOk_t, leC_t] at g2 g3; omega
    refine ⟨f, rfl, ?_⟩
    rw [br_iff]; refine ⟨fun g => e (r := (l, 1)) (by simp only [br_iff, need_iff, andB_t, andB_f, orB_t, orB_f, notB_t, notB_f, leI_t, leI_f, ltI_t, ltI_f, eqI_t, eqI_f, leN_t, leN_f, eqN_t, eqN_f, eqS_t, eqS_f, eqB_t, eqB_f, catOk_t, leC_t] at g g1; simp [keepF, g, g1, hb]), fun g4 => ?_⟩
    refine ⟨l, rfl, by omega, ?_⟩
    rw [br_iff]; refine ⟨fun g => e (r := (l, 7)) (by simp only [br_iff, need_iff, andB_t, andB_f, orB_t, orB_f, notB_t, notB_f, leI_t, leI_f, ltI_t, ltI_f, eqI_t, eqI_f, leN_t, leN_f, eqN_t, eqN_f, eqS_t, eqS_f, eqB_t, eqB_f, catOk_t, leC_t] at g g1 g4; simp [keepF, g, g1, hb, g4]), fun g5 => ?_⟩
    rw [br_iff]; refine ⟨fun g => e (r := (l, 22)) (by simp only [br_iff, need_iff, andB_t, andB_f, orB_t, orB_f, notB_t, notB_f, leI_t, leI_f, ltI_t, ltI_f, eqI_t, eqI_f, leN_t, leN_f, eqN_t, eqN_f, eqS_t, eqS_f, eqB_t, eqB_f, catOk_t, leC_t] at g g1 g4 g5; simp [keepF, g1, hb, g4, show ¬ 0 ≤ idxF l s by omega, show 16 ≤ l.length by omega]), fun g6 => ?_⟩
    rw [need_iff]; refine ⟨by simp only [br_iff, need_iff, andB_t, andB_f, orB_t, orB_f, notB_t, notB_f, leI_t, leI_f, ltI_t, ltI_f, eqI_t, eqI_f, leN_t, leN_f, eqN_t, eqN_f, eqS_t, eqS_f, eqB_t, eqB_f, catOk_t, leC_t]; omega, ?_⟩
    rw [need_iff]; refine ⟨by simp only [br_iff, need_iff, andB_t, andB_f, orB_t, orB_f, notB_t, notB_f, leI_t, leI_f, ltI_t, ltI_f, eqI_t, eqI_f, leN_t, leN_f, eqN_t, eqN_f, eqS_t, eqS_f, eqB_t, eqB_f, catOk_t, leC_t]; omega, ?_⟩
    have := e (r := (l ++ [⟨s, f, t⟩], 0)) (by simp only [br_iff, need_iff, andB_t, andB_f, orB_t, orB_f, notB_t, notB_f, leI_t, leI_f, ltI_t, ltI_f, eqI_t, eqI_f, leN_t, leN_f, eqN_t, eqN_f, eqS_t, eqS_f, eqB_t, eqB_f, catOk_t, leC_t] at g1 g4 g5 g6; simp [keepF, g1, hb, g4, show ¬ 0 ≤ idxF l s by omega, show ¬ 16 ≤ l.length by omega])
    rw [← sessV_add] at this
    exact this
  · exact h.elim
theorem rk_con {n : Nat} (hn : 4 ≤ n) : ConOk (evalF Tryd.prog cfgN n) 18 keepCon := by
  intro vs bs K h
  unfold keepCon at h
  split at h
  · rename_i xs s ys t
    obtain ⟨l, f, rfl, rfl, h1, h2, h3, h4, hK⟩ := h
    refine run_of (lp := lpOf []) (ct := ctOf [(29, valCon), (31, fidsCon), (30, atCon), (32, inlC Tryd.prog cfgN (ctOf []) 32)]) (by omega)
      (fun k hk => ctOf_ok (ctOf_cons (rval_con (by omega)) (ctOf_cons (gids_con (by omega)) (ctOf_cons (at_con (by omega)) (ctOf_cons (inl_ok (by omega) (fun _ _ => noCt_ok _)) (ctOf_nil _)))))) ?_
    rw [rk_vc]
    have e : ∀ {r}, keepF l s f t = r → K (.tup [.lst (sessV r.1), .int .i64 r.2]) [] := fun h => by subst h; exact hK
    simp only [leN_succ, eqN_self, leI_self, br_ff, br_tt, need_tt, andB_tt, List.drop_zero, List.nil_append, List.append_nil, Nat.zero_add, Nat.add_zero, Nat.sub_zero, List.take_length, Int.ofNat_eq_natCast, Int.toNat_natCast, Int.toNat_zero, sessV_len, sessV_lenL, sessV_head, sessV_all, sessV_all1, fidsV_len, fidsV_lenL, fidsV_head, fidsV_all, fidsV_all1]
    rw [need_iff]; refine ⟨by simp only [br_iff, need_iff, andB_t, andB_f, orB_t, orB_f, notB_t, notB_f, leI_t, leI_f, ltI_t, ltI_f, eqI_t, eqI_f, leN_t, leN_f, eqN_t, eqN_f, eqS_t, eqS_f, eqB_t, eqB_f, catOk_t, leC_t]; omega, ?_⟩
    rw [br_iff]; refine ⟨fun g => e (r := (l, 6)) (by simp only [br_iff, need_iff, andB_t, andB_f, orB_t, orB_f, notB_t, notB_f, leI_t, leI_f, ltI_t, ltI_f, eqI_t, eqI_f, leN_t, leN_f, eqN_t, eqN_f, eqS_t, eqS_f, eqB_t, eqB_f, catOk_t, leC_t] at g; simp [keepF, g]), fun g1 => ?_⟩
    rw [br_iff]; refine ⟨fun g2 => ?_, fun g => e (r := (l, 5)) (by simp only [br_iff, need_iff, andB_t, andB_f, orB_t, orB_f, notB_t, notB_f, leI_t, leI_f, ltI_t, ltI_f, eqI_t, eqI_f, leN_t, leN_f, eqN_t, eqN_f, eqS_t, eqS_f, eqB_t, eqB_f, catOk_t, leC_t] at g g1; simp [keepF, g1, show t < 0 by omega])⟩
    rw [br_iff]; refine ⟨fun g => e (r := (l, 5)) (by simp only [br_iff, need_iff, andB_t, andB_f, orB_t, orB_f, notB_t, notB_f, leI_t, leI_f, ltI_t, ltI_f, eqI_t, eqI_f, leN_t, leN_f, eqN_t, eqN_f, eqS_t, eqS_f, eqB_t, eqB_f, catOk_t, leC_t] at g g1; simp [keepF, g, g1, show 1099511627840 < t by omega]), fun g3 => ?_⟩
    have hb : ¬ (t < 0 ∨ 1099511627840 < t) := by simp only [br_iff, need_iff, andB_t, andB_f, orB_t, orB_f, notB_t, notB_f, leI_t, leI_f, ltI_t, ltI_f, eqI_t, eqI_f, leN_t, leN_f, eqN_t, eqN_f, eqS_t, eqS_f, eqB_t, eqB_f, catOk_t, leC_t] at g2 g3; omega
    refine ⟨f, rfl, ?_⟩
    rw [br_iff]; refine ⟨fun g => e (r := (l, 1)) (by simp only [br_iff, need_iff, andB_t, andB_f, orB_t, orB_f, notB_t, notB_f, leI_t, leI_f, ltI_t, ltI_f, eqI_t, eqI_f, leN_t, leN_f, eqN_t, eqN_f, eqS_t, eqS_f, eqB_t, eqB_f, catOk_t, leC_t] at g g1; simp [keepF, g, g1, hb]), fun g4 => ?_⟩
    refine ⟨l, rfl, by omega, ?_⟩
    rw [br_iff]; refine ⟨fun g => e (r := (l, 7)) (by simp only [br_iff, need_iff, andB_t, andB_f, orB_t, orB_f, notB_t, notB_f, leI_t, leI_f, ltI_t, ltI_f, eqI_t, eqI_f, leN_t, leN_f, eqN_t, eqN_f, eqS_t, eqS_f, eqB_t, eqB_f, catOk_t, leC_t] at g g1 g4; simp [keepF, g, g1, hb, g4]), fun g5 => ?_⟩
    rw [br_iff]; refine ⟨fun g => e (r := (l, 22)) (by simp only [br_iff, need_iff, andB_t, andB_f, orB_t, orB_f, notB_t, notB_f, leI_t, leI_f, ltI_t, ltI_f, eqI_t, eqI_f, leN_t, leN_f, eqN_t, eqN_f, eqS_t, eqS_f, eqB_t, eqB_f, catOk_t, leC_t] at g g1 g4 g5; simp [keepF, g1, hb, g4, show ¬ 0 ≤ idxF l s by omega, show 16 ≤ l.length by omega]), fun g6 => ?_⟩
    rw [need_iff]; refine ⟨by simp only [br_iff, need_iff, andB_t, andB_f, orB_t, orB_f, notB_t, notB_f, leI_t, leI_f, ltI_t, ltI_f, eqI_t, eqI_f, leN_t, leN_f, eqN_t, eqN_f, eqS_t, eqS_f, eqB_t, eqB_f, catOk_t, leC_t]; omega, ?_⟩
    rw [need_iff]; refine ⟨by simp only [br_iff, need_iff, andB_t, andB_f, orB_t, orB_f, notB_t, notB_f, leI_t, leI_f, ltI_t, ltI_f, eqI_t, eqI_f, leN_t, leN_f, eqN_t, eqN_f, eqS_t, eqS_f, eqB_t, eqB_f, catOk_t, leC_t]; omega, ?_⟩
    rw [need_iff]; refine ⟨by simp only [br_iff, need_iff, andB_t, andB_f, orB_t, orB_f, notB_t, notB_f, leI_t, leI_f, ltI_t, ltI_f, eqI_t, eqI_f, leN_t, leN_f, eqN_t, eqN_f, eqS_t, eqS_f, eqB_t, eqB_f, catOk_t, leC_t]; omega, ?_⟩
    have := e (r := (l ++ [⟨s, f, t⟩], 0)) (by simp only [br_iff, need_iff, andB_t, andB_f, orB_t, orB_f, notB_t, notB_f, leI_t, leI_f, ltI_t, ltI_f, eqI_t, eqI_f, leN_t, leN_f, eqN_t, eqN_f, eqS_t, eqS_f, eqB_t, eqB_f, catOk_t, leC_t] at g1 g4 g5 g6; simp [keepF, g1, hb, g4, show ¬ 0 ≤ idxF l s by omega, show ¬ 16 ≤ l.length by omega])
    rw [← sessV_add] at this
    exact this
  · exact h.elim
end Go.Proofs.YtjilikmpfmifkaaDoor
namespace Go.Proofs.YtjilikmpfmifkaaDoor
open Go.RowKit
set_option maxRecDepth 100000
set_option linter.unusedVariables false
set_option linter.unusedSimpArgs false
theorem idxN_some {s : List UInt8} : ∀ {l : List Sess} {k j : Nat}, idxN s l k = some j → ∃ i f, j = k + i ∧ l[i]? = some f ∧ f.name = s
  | [], k, j, h => by cases h
  | a :: l, k, j, h => by
    rw [idxN] at h
    split at h
    · cases h; exact ⟨0, a, rfl, rfl, ‹_›⟩
    · obtain ⟨i, f, h1, h2, h3⟩ := idxN_some h
      exact ⟨i + 1, f, by omega, by simpa using h2, h3⟩
theorem idxF_get {s : List UInt8} {l : List Sess} (h : 0 ≤ idxF l s) : ∃ (i : Nat) (f : Sess), idxF l s = (i : Int) ∧ i < l.length ∧ l[i]? = some f ∧ f.name = s := by
  unfold idxF at h ⊢
  split at h
  · rename_i j hj
    obtain ⟨i, f, h1, h2, h3⟩ := idxN_some hj
    exact ⟨i, f, by omega, (List.getElem?_eq_some_iff.1 h2).1, h2, h3⟩
  · omega
noncomputable def resF (l : List Sess) (name : List UInt8) (now : Int) : List Sess × List Fid × Int :=
  match l[(idxF l name).toNat]? with
  | some s => if 0 ≤ idxF l name ∧ now < s.til then (l.eraseIdx (idxF l name).toNat, s.fids, 0) else (l, [], 31)
  | none => (l, [], 31)
theorem resF_no {l : List Sess} {name : List UInt8} {now : Int} (h : idxF l name < 0) : resF l name now = (l, [], 31) := by
  unfold resF
  split
  · rw [if_neg (by omega)]
  · rfl
theorem resF_at {l : List Sess} {name : List UInt8} {now : Int} {i : Nat} {s : Sess} (h : idxF l name = (i : Int)) (hs : l[i]? = some s) : resF l name now = if now < s.til then (l.eraseIdx i, s.fids, 0) else (l, [], 31) := by
  unfold resF
  simp only [h, Int.toNat_natCast, hs]
  simp
def resCon : Con := fun vs bs K => match vs, bs with
  | [.lst xs, .str s, .int .i64 t], [] => ∃ (l : List Sess), xs = sessV l ∧ l.length ≤ 1000 ∧ okF l ∧ K (.tup [.lst (sessV (resF l s t).1), .lst (fidsV (resF l s t).2.1), .int .i64 (resF l s t).2.2]) []
  | _, _ => False
theorem rs_con {n : Nat} (hn : 4 ≤ n) : ConOk (evalF Tryd.prog cfgN n) 20 resCon := by
  intro vs bs K h
  unfold resCon at h
  split at h
  · rename_i xs s t
    obtain ⟨l, rfl, h1, h2, hK⟩ := h
    refine run_of (lp := lpOf []) (ct := ctOf [(35, cpCon), (27, atCon), (37, delCon)]) (by omega)
      (fun k hk => ctOf_ok (ctOf_cons (cp_con (by omega)) (ctOf_cons (find_con (by omega)) (ctOf_cons (del_con (by omega)) (ctOf_nil _))))) ?_
    rw [rs_vc]
    refine ⟨l, rfl, by omega, h2, l, rfl, by omega, ?_⟩
    simp only [leN_succ, eqN_self, leI_self, br_ff, br_tt, need_tt, andB_tt, List.drop_zero, List.nil_append, List.append_nil, Nat.zero_add, Nat.add_zero, Nat.sub_zero, List.take_length, Int.ofNat_eq_natCast, Int.toNat_natCast, Int.toNat_zero, sessV_len, sessV_lenL, sessV_head, sessV_all, sessV_all1, fidsV_len, fidsV_lenL, fidsV_head, fidsV_all, fidsV_all1]
    have e : ∀ {r}, resF l s t = r → K (.tup [.lst (sessV r.1), .lst (fidsV r.2.1), .int .i64 r.2.2]) [] := fun h => by subst h; exact hK
    rw [br_iff]; refine ⟨fun g => e (r := (l, [], 31)) (resF_no (by simp only [br_iff, need_iff, andB_t, andB_f, orB_t, orB_f, notB_t, notB_f, leI_t, leI_f, ltI_t, ltI_f, eqI_t, eqI_f, leN_t, leN_f, eqN_t, eqN_f, eqS_t, eqS_f, eqB_t, eqB_f, catOk_t, leC_t] at g; exact g)), fun g1 => ?_⟩
    obtain ⟨i, f, hi, hlt, gf, hn⟩ := idxF_get (l := l) (s := s) (by simp only [br_iff, need_iff, andB_t, andB_f, orB_t, orB_f, notB_t, notB_f, leI_t, leI_f, ltI_t, ltI_f, eqI_t, eqI_f, leN_t, leN_f, eqN_t, eqN_f, eqS_t, eqS_f, eqB_t, eqB_f, catOk_t, leC_t] at g1; omega)
    have rf := sessV_row gf
    have kf : okRow (sessV l) i 3 = true := sessV_ok hlt
    rw [hi]
    simp only [Int.toNat_natCast]
    rw [need_iff]; refine ⟨by simp only [br_iff, need_iff, andB_t, andB_f, orB_t, orB_f, notB_t, notB_f, leI_t, leI_f, ltI_t, ltI_f, eqI_t, eqI_f, leN_t, leN_f, eqN_t, eqN_f, eqS_t, eqS_f, eqB_t, eqB_f, catOk_t, leC_t]; omega, ?_⟩
    rw [need_iff]; refine ⟨kf, f.til, by rw [rf]; rfl, ?_⟩
    have e2 := @e _ (resF_at hi gf)
    rw [br_iff]; refine ⟨fun g => ?_, fun g2 => ?_⟩
    · rw [if_neg (by simp only [br_iff, need_iff, andB_t, andB_f, orB_t, orB_f, notB_t, notB_f, leI_t, leI_f, ltI_t, ltI_f, eqI_t, eqI_f, leN_t, leN_f, eqN_t, eqN_f, eqS_t, eqS_f, eqB_t, eqB_f, catOk_t, leC_t] at g; omega)] at e2; exact e2
    rw [if_pos (by simp only [br_iff, need_iff, andB_t, andB_f, orB_t, orB_f, notB_t, notB_f, leI_t, leI_f, ltI_t, ltI_f, eqI_t, eqI_f, leN_t, leN_f, eqN_t, eqN_f, eqS_t, eqS_f, eqB_t, eqB_f, catOk_t, leC_t] at g2; omega)] at e2
    rw [need_iff]; refine ⟨by simp only [br_iff, need_iff, andB_t, andB_f, orB_t, orB_f, notB_t, notB_f, leI_t, leI_f, ltI_t, ltI_f, eqI_t, eqI_f, leN_t, leN_f, eqN_t, eqN_f, eqS_t, eqS_f, eqB_t, eqB_f, catOk_t, leC_t]; omega, ?_⟩
    rw [need_iff]; refine ⟨kf, fidsV f.fids, by simp only [partAt, sessV_get, gf]; rfl, ?_⟩
    refine ⟨l, i, rfl, rfl, rfl, rfl, by rw [addI_i64 (by omega) (by omega)], hlt, by omega, fun ys => ?_⟩
    rw [show List.take (l.length - 1) (sessV (l.eraseIdx i) ++ ys) = sessV (l.eraseIdx i) from List.take_left' (by rw [sessV_len, List.length_eraseIdx_of_lt hlt])]
    exact e2
  · exact h.elim
theorem rr2_con {n : Nat} (hn : 4 ≤ n) : ConOk (evalF Tryd.prog cfgN n) 21 resCon := by
  intro vs bs K h
  unfold resCon at h
  split at h
  · rename_i xs s t
    obtain ⟨l, rfl, h1, h2, hK⟩ := h
    refine run_of (lp := lpOf []) (ct := ctOf [(30, atCon)]) (by omega) (fun k hk => ctOf_ok (ctOf_cons (at_con (by omega)) (ctOf_nil _))) ?_
    rw [rr2_vc]
    refine ⟨l, rfl, by omega, ?_⟩
    have e : ∀ {r}, resF l s t = r → K (.tup [.lst (sessV r.1), .lst (fidsV r.2.1), .int .i64 r.2.2]) [] := fun h => by subst h; exact hK
    rw [br_iff]; refine ⟨fun g => e (r := (l, [], 31)) (resF_no (by simp only [br_iff, need_iff, andB_t, andB_f, orB_t, orB_f, notB_t, notB_f, leI_t, leI_f, ltI_t, ltI_f, eqI_t, eqI_f, leN_t, leN_f, eqN_t, eqN_f, eqS_t, eqS_f, eqB_t, eqB_f, catOk_t, leC_t] at g; exact g)), fun g1 => ?_⟩
    obtain ⟨i, f, hi, hlt, gf, hn⟩ := idxF_get (l := l) (s := s) (by simp only [br_iff, need_iff, andB_t, andB_f, orB_t, orB_f, notB_t, notB_f, leI_t, leI_f, ltI_t, ltI_f, eqI_t, eqI_f, leN_t, leN_f, eqN_t, eqN_f, eqS_t, eqS_f, eqB_t, eqB_f, catOk_t, leC_t] at g1; omega)
    have rf := sessV_row gf
    have kf : okRow (sessV l) i 3 = true := sessV_ok hlt
    have e1 : addI .i64 (i : Int) 1 = ((i + 1 : Nat) : Int) := by rw [addI_i64 (by omega) (by omega)]; rfl
    have c1 : cutL (sessV l) 0 (i : Int) = sessV (l.take i) := by simp [cutL, sessV_take]
    have c2 : cutL (sessV l) ((i + 1 : Nat) : Int) (l.length : Int) = sessV (l.drop (i + 1)) := by
      simp only [cutL, Int.toNat_natCast, sessV_drop]
      exact List.take_of_length_le (by simp [sessV])
    have hs : sessV (l.take i) ++ sessV (l.drop (i + 1)) = sessV (l.eraseIdx i) := by rw [sessV_app, List.eraseIdx_eq_take_drop_succ]
    have ha : headOkP 3 (sessV (l.take i)) = true := sessV_head _
    have hb : headOkP 3 (sessV (l.drop (i + 1))) = true := sessV_head _
    have hla : (sessV (l.take i)).length = i := by rw [sessV_len, List.length_take]; omega
    have hlb : (sessV (l.drop (i + 1))).length = l.length - (i + 1) := by rw [sessV_len, List.length_drop]
    rw [hi]
    simp only [e1, sessV_lenL, c1, c2, leN_succ, eqN_self, leI_self, br_ff, br_tt, need_tt, andB_tt, List.drop_zero, List.nil_append, List.append_nil, Nat.zero_add, Nat.add_zero, Nat.sub_zero, List.take_length, Int.ofNat_eq_natCast, Int.toNat_natCast, Int.toNat_zero, sessV_head]
    rw [need_iff]; refine ⟨by simp only [br_iff, need_iff, andB_t, andB_f, orB_t, orB_f, notB_t, notB_f, leI_t, leI_f, ltI_t, ltI_f, eqI_t, eqI_f, leN_t, leN_f, eqN_t, eqN_f, eqS_t, eqS_f, eqB_t, eqB_f, catOk_t, leC_t]; omega, ?_⟩
    rw [need_iff]; refine ⟨kf, f.til, by rw [rf]; rfl, ?_⟩
    have e2 := @e _ (resF_at hi gf)
    rw [br_iff]; refine ⟨fun g => ?_, fun g2 => ?_⟩
    · rw [if_neg (by simp only [br_iff, need_iff, andB_t, andB_f, orB_t, orB_f, notB_t, notB_f, leI_t, leI_f, ltI_t, ltI_f, eqI_t, eqI_f, leN_t, leN_f, eqN_t, eqN_f, eqS_t, eqS_f, eqB_t, eqB_f, catOk_t, leC_t] at g; omega)] at e2; exact e2
    rw [if_pos (by simp only [br_iff, need_iff, andB_t, andB_f, orB_t, orB_f, notB_t, notB_f, leI_t, leI_f, ltI_t, ltI_f, eqI_t, eqI_f, leN_t, leN_f, eqN_t, eqN_f, eqS_t, eqS_f, eqB_t, eqB_f, catOk_t, leC_t] at g2; omega), ← hs] at e2
    generalize sessV (l.take i) = A at *
    generalize sessV (l.drop (i + 1)) = B at *
    simp only [appIn, appIn', takeApp]
    rw [need_iff]; refine ⟨by simp only [br_iff, need_iff, andB_t, andB_f, orB_t, orB_f, notB_t, notB_f, leI_t, leI_f, ltI_t, ltI_f, eqI_t, eqI_f, leN_t, leN_f, eqN_t, eqN_f, eqS_t, eqS_f, eqB_t, eqB_f, catOk_t, leC_t]; omega, ?_⟩
    rw [need_iff]; refine ⟨by simp only [br_iff, need_iff, andB_t, andB_f, orB_t, orB_f, notB_t, notB_f, leI_t, leI_f, ltI_t, ltI_f, eqI_t, eqI_f, leN_t, leN_f, eqN_t, eqN_f, eqS_t, eqS_f, eqB_t, eqB_f, catOk_t, leC_t]; omega, ?_⟩
    rw [need_iff]; refine ⟨by simp only [br_iff, need_iff, andB_t, andB_f, orB_t, orB_f, notB_t, notB_f, leI_t, leI_f, ltI_t, ltI_f, eqI_t, eqI_f, leN_t, leN_f, eqN_t, eqN_f, eqS_t, eqS_f, eqB_t, eqB_f, catOk_t, leC_t]; omega, ?_⟩
    rw [br_iff]; refine ⟨fun g => ?_, fun g => ?_⟩
    · rw [need_iff]; refine ⟨by simp only [br_iff, need_iff, andB_t, andB_f, orB_t, orB_f, notB_t, notB_f, leI_t, leI_f, ltI_t, ltI_f, eqI_t, eqI_f, leN_t, leN_f, eqN_t, eqN_f, eqS_t, eqS_f, eqB_t, eqB_f, catOk_t, leC_t]; omega, ?_⟩
      rw [need_iff]; exact ⟨kf, fidsV f.fids, by rw [rf]; rfl, e2⟩
    · rw [need_iff]; refine ⟨by simp only [br_iff, need_iff, andB_t, andB_f, orB_t, orB_f, notB_t, notB_f, leI_t, leI_f, ltI_t, ltI_f, eqI_t, eqI_f, leN_t, leN_f, eqN_t, eqN_f, eqS_t, eqS_f, eqB_t, eqB_f, catOk_t, leC_t]; omega, ?_⟩
      rw [need_iff]; refine ⟨by simp only [br_iff, need_iff, andB_t, andB_f, orB_t, orB_f, notB_t, notB_f, leI_t, leI_f, ltI_t, ltI_f, eqI_t, eqI_f, leN_t, leN_f, eqN_t, eqN_f, eqS_t, eqS_f, eqB_t, eqB_f, catOk_t, leC_t]; omega, ?_⟩
      rw [need_iff]; exact ⟨kf, fidsV f.fids, by rw [rf]; rfl, e2⟩
  · exact h.elim
end Go.Proofs.YtjilikmpfmifkaaDoor
namespace Go.Proofs.YtjilikmpfmifkaaDoor
open Go.RowKit
set_option maxRecDepth 100000
set_option linter.unusedVariables false
set_option linter.unusedSimpArgs false
def leftF (l : List Sess) (t : Int) : List Sess := l.filter fun s => decide (t < s.til)
def goneF (l : List Sess) (t : Int) : List Fid := (l.filter fun s => !decide (t < s.til)).flatMap (·.fids)
theorem leftF_len (l : List Sess) (t : Int) : (leftF l t).length ≤ l.length := List.length_filter_le _ _
theorem goneF_len {t : Int} : ∀ {l : List Sess}, okF l → (goneF l t).length ≤ l.length * 1000
  | [], _ => by simp [goneF]
  | a :: l, h => by
    have ih := goneF_len (t := t) (l := l) fun s hs => h s (List.mem_cons_of_mem _ hs)
    have ha := h a (List.mem_cons_self ..)
    unfold goneF at ih ⊢
    rw [List.filter_cons]
    split
    · simp only [List.flatMap_cons, List.length_append, List.length_cons]; omega
    · simp only [List.length_cons]; omega
theorem leftF_snoc {l : List Sess} {t : Int} {j : Nat} {f : Sess} (h : l[j]? = some f) : leftF (l.take (j + 1)) t = leftF (l.take j) t ++ if t < f.til then [f] else [] := by
  obtain ⟨h1, rfl⟩ := List.getElem?_eq_some_iff.1 h
  rw [List.take_succ_eq_append_getElem h1]
  simp only [leftF, List.filter_append, List.filter_cons, List.filter_nil, decide_eq_true_eq]
theorem goneF_snoc {l : List Sess} {t : Int} {j : Nat} {f : Sess} (h : l[j]? = some f) : goneF (l.take (j + 1)) t = goneF (l.take j) t ++ if t < f.til then [] else f.fids := by
  obtain ⟨h1, rfl⟩ := List.getElem?_eq_some_iff.1 h
  rw [List.take_succ_eq_append_getElem h1]
  simp only [goneF, List.filter_append, List.filter_cons, List.filter_nil, List.flatMap_append]
  congr 1
  by_cases q : t < l[j].til <;> simp [q]
theorem okF_take {l : List Sess} (h : okF l) (j : Nat) : okF (l.take j) := fun s hs => h s (List.mem_of_mem_take hs)
def expCon : Con := fun vs bs K => match vs, bs with
  | [.lst xs, .int .i64 t], [] => ∃ (l : List Sess), xs = sessV l ∧ l.length ≤ 1000 ∧ okF l ∧ K (.tup [.lst (sessV (leftF l t)), .lst (fidsV (goneF l t))]) []
  | _, _ => False
def seI (l : List Sess) (t : Int) (x : seX) (m : Nat) : Prop := ∃ j : Nat, x = ⟨sessV (leftF (l.take j) t), (leftF (l.take j) t).length, (leftF (l.take j) t).length, fidsV (goneF (l.take j) t), (goneF (l.take j) t).length, (goneF (l.take j) t).length, (j : Int)⟩ ∧ j + m = l.length
def reI (l : List Sess) (t : Int) (x : reX) (m : Nat) : Prop := ∃ j : Nat, x = ⟨sessV (leftF (l.take j) t), (leftF (l.take j) t).length, (leftF (l.take j) t).length, fidsV (goneF (l.take j) t), (goneF (l.take j) t).length, (goneF (l.take j) t).length, (j : Int)⟩ ∧ j + m = l.length
theorem se_con {n : Nat} (hn : 2 ≤ n) : ConOk (evalF Tryd.prog cfgN n) 22 expCon := by
  intro vs bs K h
  unfold expCon at h
  split at h
  · rename_i xs t
    obtain ⟨l, rfl, h1, h2, hK⟩ := h
    refine run_of (lp := lpOf [(4, seL fun _ _ x m => seI l t x m)]) (ct := ctOf [(35, cpCon)]) (by omega) (fun k hk => ctOf_ok (ctOf_cons (cp_con (by omega)) (ctOf_nil _))) ?_
    rw [se_vc]
    refine ⟨l, rfl, by omega, h2, ?_⟩
    simp only [leN_succ, eqN_self, leI_self, br_ff, br_tt, need_tt, andB_tt, List.drop_zero, List.nil_append, List.append_nil, Nat.zero_add, Nat.add_zero, Nat.sub_zero, List.take_length, Int.ofNat_eq_natCast, Int.toNat_natCast, Int.toNat_zero, sessV_len, sessV_lenL, sessV_head, sessV_all, sessV_all1]
    refine ⟨⟨l.length, by omega, 0, rfl, by omega⟩, ?_⟩
    rintro _ m ⟨j, rfl, hj⟩
    dsimp only
    have lt1 := leftF_len (l.take j) t
    have lt2 := goneF_len (t := t) (okF_take h2 j)
    rw [List.length_take] at lt1 lt2
    rw [br_iff]
    refine ⟨fun hlt => ?_, fun hge => ?_⟩
    · have hlt : j < l.length := by simp only [br_iff, need_iff, andB_t, andB_f, orB_t, orB_f, notB_t, notB_f, leI_t, leI_f, ltI_t, ltI_f, eqI_t, eqI_f, leN_t, leN_f, eqN_t, eqN_f, eqS_t, eqS_f, eqB_t, eqB_f, catOk_t, leC_t] at hlt; omega
      have gf : l[j]? = some l[j] := List.getElem?_eq_getElem hlt
      generalize l[j] = f at gf
      have rf := sessV_row gf
      have kf : okRow (sessV l) (Int.toNat (j : Int)) 3 = true := by simpa using sessV_ok (l := l) (i := j) hlt
      have nf : andB (leI 0 (j : Int)) (ltI (j : Int) (l.length : Int)) = true := by simp only [br_iff, need_iff, andB_t, andB_f, orB_t, orB_f, notB_t, notB_f, leI_t, leI_f, ltI_t, ltI_f, eqI_t, eqI_f, leN_t, leN_f, eqN_t, eqN_f, eqS_t, eqS_f, eqB_t, eqB_f, catOk_t, leC_t]; omega
      have hf2 := h2 f (List.mem_of_getElem? gf)
      have s1 := leftF_snoc (t := t) gf
      have s2 := goneF_snoc (t := t) gf
      rw [need_iff, need_iff]
      refine ⟨nf, kf, ?_⟩
      try rw [rf]
      repeat apply Exists.intro
      refine ⟨rfl, ?_⟩
      simp only [leN_succ, eqN_self, leI_self, br_ff, br_tt, need_tt, andB_tt, List.drop_zero, List.nil_append, List.append_nil, Nat.zero_add, Nat.add_zero, Nat.sub_zero, List.take_length, Int.ofNat_eq_natCast, Int.toNat_natCast, Int.toNat_zero, sessV_len, sessV_lenL, sessV_head, sessV_all, sessV_all1, fidsV_len, fidsV_lenL, fidsV_head, fidsV_all, fidsV_all1]
      rw [br_iff]
      refine ⟨fun q => ?_, fun q => ?_⟩
      · have q : t < f.til := by simp only [br_iff, need_iff, andB_t, andB_f, orB_t, orB_f, notB_t, notB_f, leI_t, leI_f, ltI_t, ltI_f, eqI_t, eqI_f, leN_t, leN_f, eqN_t, eqN_f, eqS_t, eqS_f, eqB_t, eqB_f, catOk_t, leC_t] at q; exact q
        rw [if_pos q] at s1 s2
        rw [need_iff]; refine ⟨by simp only [br_iff, need_iff, andB_t, andB_f, orB_t, orB_f, notB_t, notB_f, leI_t, leI_f, ltI_t, ltI_f, eqI_t, eqI_f, leN_t, leN_f, eqN_t, eqN_f, eqS_t, eqS_f, eqB_t, eqB_f, catOk_t, leC_t]; omega, by trivial, m - 1, by omega, j + 1, ?_, by omega⟩
        rw [s1, s2, addI_i64 (by omega) (by omega), ← sessV_add]
        simp [Sess.v]
      · have q : ¬ t < f.til := by simp only [br_iff, need_iff, andB_t, andB_f, orB_t, orB_f, notB_t, notB_f, leI_t, leI_f, ltI_t, ltI_f, eqI_t, eqI_f, leN_t, leN_f, eqN_t, eqN_f, eqS_t, eqS_f, eqB_t, eqB_f, catOk_t, leC_t] at q; omega
        rw [if_neg q] at s1 s2
        have e3 : ∀ A : List Fid, fidsV A ++ fidsV f.fids = fidsV (A ++ f.fids) := fun A => fidsV_app _ _
        have fin : seI l t ⟨sessV (leftF (l.take j) t), (leftF (l.take j) t).length, (leftF (l.take j) t).length, fidsV (goneF (l.take j) t ++ f.fids), (goneF (l.take j) t).length + f.fids.length, (goneF (l.take j) t).length + f.fids.length, addI .i64 (j : Int) 1⟩ (m - 1) := by
          refine ⟨j + 1, ?_, by omega⟩
          rw [s1, s2, addI_i64 (by omega) (by omega)]
          simp
        rw [br_iff]
        refine ⟨fun g => ?_, fun g => ?_⟩
        · have h0 : f.fids = [] := by simp only [br_iff, need_iff, andB_t, andB_f, orB_t, orB_f, notB_t, notB_f, leI_t, leI_f, ltI_t, ltI_f, eqI_t, eqI_f, leN_t, leN_f, eqN_t, eqN_f, eqS_t, eqS_f, eqB_t, eqB_f, catOk_t, leC_t] at g; exact List.eq_nil_of_length_eq_zero (by omega)
          rw [h0] at fin ⊢
          refine ⟨by trivial, m - 1, by omega, ?_⟩
          have := List.drop_of_length_le (l := fidsV (goneF (l.take j) t)) (i := (goneF (l.take j) t).length) (by rw [fidsV_len]; omega)
          simp only [fidsV] at this
          simpa [fidsV, this] using fin
        · rw [need_iff]; refine ⟨by simp only [br_iff, need_iff, andB_t, andB_f, orB_t, orB_f, notB_t, notB_f, leI_t, leI_f, ltI_t, ltI_f, eqI_t, eqI_f, leN_t, leN_f, eqN_t, eqN_f, eqS_t, eqS_f, eqB_t, eqB_f, catOk_t, leC_t]; omega, by trivial, m - 1, by omega, ?_⟩
          rw [e3]; exact fin
    · have : j = l.length := by simp only [br_iff, need_iff, andB_t, andB_f, orB_t, orB_f, notB_t, notB_f, leI_t, leI_f, ltI_t, ltI_f, eqI_t, eqI_f, leN_t, leN_f, eqN_t, eqN_f, eqS_t, eqS_f, eqB_t, eqB_f, catOk_t, leC_t] at hge; omega
      subst this
      simpa [sessV_all, fidsV_all] using hK
  · exact h.elim
theorem re_con {n : Nat} (hn : 2 ≤ n) : ConOk (evalF Tryd.prog cfgN n) 23 expCon := by
  intro vs bs K h
  unfold expCon at h
  split at h
  · rename_i xs t
    obtain ⟨l, rfl, h1, h2, hK⟩ := h
    refine run_of (lp := lpOf [(4, reL fun _ _ x m => reI l t x m)]) (by omega) (fun k _ => noCt_ok _) ?_
    rw [re_vc]
    simp only [leN_succ, eqN_self, leI_self, br_ff, br_tt, need_tt, andB_tt, List.drop_zero, List.nil_append, List.append_nil, Nat.zero_add, Nat.add_zero, Nat.sub_zero, List.take_length, Int.ofNat_eq_natCast, Int.toNat_natCast, Int.toNat_zero, sessV_len, sessV_lenL, sessV_head, sessV_all, sessV_all1]
    refine ⟨⟨l.length, by omega, 0, rfl, by omega⟩, ?_⟩
    rintro _ m ⟨j, rfl, hj⟩
    dsimp only
    have lt1 := leftF_len (l.take j) t
    have lt2 := goneF_len (t := t) (okF_take h2 j)
    rw [List.length_take] at lt1 lt2
    rw [br_iff]
    refine ⟨fun hlt => ?_, fun hge => ?_⟩
    · have hlt : j < l.length := by simp only [br_iff, need_iff, andB_t, andB_f, orB_t, orB_f, notB_t, notB_f, leI_t, leI_f, ltI_t, ltI_f, eqI_t, eqI_f, leN_t, leN_f, eqN_t, eqN_f, eqS_t, eqS_f, eqB_t, eqB_f, catOk_t, leC_t] at hlt; omega
      have gf : l[j]? = some l[j] := List.getElem?_eq_getElem hlt
      generalize l[j] = f at gf
      have rf := sessV_row gf
      have kf : okRow (sessV l) (Int.toNat (j : Int)) 3 = true := by simpa using sessV_ok (l := l) (i := j) hlt
      have nf : andB (leI 0 (j : Int)) (ltI (j : Int) (l.length : Int)) = true := by simp only [br_iff, need_iff, andB_t, andB_f, orB_t, orB_f, notB_t, notB_f, leI_t, leI_f, ltI_t, ltI_f, eqI_t, eqI_f, leN_t, leN_f, eqN_t, eqN_f, eqS_t, eqS_f, eqB_t, eqB_f, catOk_t, leC_t]; omega
      have hf2 := h2 f (List.mem_of_getElem? gf)
      have s1 := leftF_snoc (t := t) gf
      have s2 := goneF_snoc (t := t) gf
      rw [need_iff, need_iff]
      refine ⟨nf, kf, ?_⟩
      try rw [rf]
      repeat apply Exists.intro
      refine ⟨rfl, ?_⟩
      rw [br_iff]
      refine ⟨fun q => ?_, fun q => ?_⟩
      · have q : ¬ t < f.til := by simp only [br_iff, need_iff, andB_t, andB_f, orB_t, orB_f, notB_t, notB_f, leI_t, leI_f, ltI_t, ltI_f, eqI_t, eqI_f, leN_t, leN_f, eqN_t, eqN_f, eqS_t, eqS_f, eqB_t, eqB_f, catOk_t, leC_t] at q; omega
        rw [if_neg q] at s1 s2
        rw [need_iff, need_iff]
        refine ⟨nf, kf, ?_⟩
        try rw [rf]
        repeat apply Exists.intro
        refine ⟨rfl, ?_⟩
        simp only [leN_succ, eqN_self, leI_self, br_ff, br_tt, need_tt, andB_tt, List.drop_zero, List.nil_append, List.append_nil, Nat.zero_add, Nat.add_zero, Nat.sub_zero, List.take_length, Int.ofNat_eq_natCast, Int.toNat_natCast, Int.toNat_zero, sessV_len, sessV_lenL, sessV_head, sessV_all, sessV_all1, fidsV_len, fidsV_lenL, fidsV_head, fidsV_all, fidsV_all1]
        have e3 : ∀ A : List Fid, fidsV A ++ fidsV f.fids = fidsV (A ++ f.fids) := fun A => fidsV_app _ _
        have fin : reI l t ⟨sessV (leftF (l.take j) t), (leftF (l.take j) t).length, (leftF (l.take j) t).length, fidsV (goneF (l.take j) t ++ f.fids), (goneF (l.take j) t).length + f.fids.length, (goneF (l.take j) t).length + f.fids.length, addI .i64 (j : Int) 1⟩ (m - 1) := by
          refine ⟨j + 1, ?_, by omega⟩
          rw [s1, s2, addI_i64 (by omega) (by omega)]
          simp
        rw [br_iff]
        refine ⟨fun g => ?_, fun g => ?_⟩
        · have h0 : f.fids = [] := by simp only [br_iff, need_iff, andB_t, andB_f, orB_t, orB_f, notB_t, notB_f, leI_t, leI_f, ltI_t, ltI_f, eqI_t, eqI_f, leN_t, leN_f, eqN_t, eqN_f, eqS_t, eqS_f, eqB_t, eqB_f, catOk_t, leC_t] at g; exact List.eq_nil_of_length_eq_zero (by omega)
          rw [h0] at fin ⊢
          refine ⟨by trivial, m - 1, by omega, ?_⟩
          have := List.drop_of_length_le (l := fidsV (goneF (l.take j) t)) (i := (goneF (l.take j) t).length) (by rw [fidsV_len]; omega)
          simp only [fidsV] at this
          simpa [fidsV, this] using fin
        · rw [need_iff]; refine ⟨by simp only [br_iff, need_iff, andB_t, andB_f, orB_t, orB_f, notB_t, notB_f, leI_t, leI_f, ltI_t, ltI_f, eqI_t, eqI_f, leN_t, leN_f, eqN_t, eqN_f, eqS_t, eqS_f, eqB_t, eqB_f, catOk_t, leC_t]; omega, by trivial, m - 1, by omega, ?_⟩
          rw [e3]; exact fin
      · have q : t < f.til := by simp only [br_iff, need_iff, andB_t, andB_f, orB_t, orB_f, notB_t, notB_f, leI_t, leI_f, ltI_t, ltI_f, eqI_t, eqI_f, leN_t, leN_f, eqN_t, eqN_f, eqS_t, eqS_f, eqB_t, eqB_f, catOk_t, leC_t] at q; omega
        rw [if_pos q] at s1 s2
        rw [need_iff, need_iff]
        refine ⟨nf, kf, ?_⟩
        try rw [rf]
        repeat apply Exists.intro
        refine ⟨rfl, ?_⟩
        simp only [leN_succ, eqN_self, leI_self, br_ff, br_tt, need_tt, andB_tt, List.drop_zero, List.nil_append, List.append_nil, Nat.zero_add, Nat.add_zero, Nat.sub_zero, List.take_length, Int.ofNat_eq_natCast, Int.toNat_natCast, Int.toNat_zero, sessV_len, sessV_lenL, sessV_head, sessV_all, sessV_all1, fidsV_len, fidsV_lenL, fidsV_head, fidsV_all, fidsV_all1]
        rw [need_iff]; refine ⟨by simp only [br_iff, need_iff, andB_t, andB_f, orB_t, orB_f, notB_t, notB_f, leI_t, leI_f, ltI_t, ltI_f, eqI_t, eqI_f, leN_t, leN_f, eqN_t, eqN_f, eqS_t, eqS_f, eqB_t, eqB_f, catOk_t, leC_t]; omega, by trivial, m - 1, by omega, j + 1, ?_, by omega⟩
        rw [s1, s2, addI_i64 (by omega) (by omega), ← sessV_add]
        simp [Sess.v]
    · have : j = l.length := by simp only [br_iff, need_iff, andB_t, andB_f, orB_t, orB_f, notB_t, notB_f, leI_t, leI_f, ltI_t, ltI_f, eqI_t, eqI_f, leN_t, leN_f, eqN_t, eqN_f, eqS_t, eqS_f, eqB_t, eqB_f, catOk_t, leC_t] at hge; omega
      subst this
      simpa [sessV_all, fidsV_all] using hK
  · exact h.elim
end Go.Proofs.YtjilikmpfmifkaaDoor
namespace Go.Proofs.YtjilikmpfmifkaaDoor
open Go.RowKit
set_option maxRecDepth 100000
set_option linter.unusedVariables false
set_option linter.unusedSimpArgs false
theorem lke_vc (xs : List (List V)) (s : List UInt8) (ys : List (List V)) (t : Int) (K : V → List Bk → Prop) : vcF Tryd.prog cfgN (ctOf [(9, smCon), (16, fewCon), (11, rightCon), (12, rightCon), (17, keepCon), (18, keepCon), (19, ssCon), (10, okCon)]) (lpOf []) 5 [.lst xs, .str s, .lst ys, .int .i64 t] [] K = (
  ∃ l5 : List Sess, ((xs : List (List V)) = sessV l5) ∧ (
  ∀ b6 : Bool, (((b6 : Bool) = true) → (
  (l5.length ≤ 20) ∧ (
  ∀ j7 : Nat, ∀ s8 : Sess, ((l5.get?Internal j7 : Option Sess) = some s8) → (
  s8.2.length ≤ 40)))) → (
  br (notB b6) (
    K (V.bool true) []) (
    br (ltI 200 (lenS s)) (
      K (V.bool true) []) (
      ∃ l7 : List Fid, ((ys : List (List V)) = fidsV l7) ∧ (
      ∀ b8 : Bool, (((b8 : Bool) = true) → (
      l7.length ≤ 40)) → (
      br (notB b8) (
        K (V.bool true) []) (
        ∃ l9 : List Sess, ((xs : List (List V)) = sessV l9) ∧ (
        (∀ j10 : Nat, ∀ s11 : Sess, ((l9.get?Internal j10 : Option Sess) = some s11) → (
        s11.1.length ≤ 140737488351232)) ∧ (
        br (notB (rightB l9)) (
          K (V.bool true) []) (
          ∃ l10 : List Sess, ∃ f11 : List Fid, ((xs : List (List V)) = sessV l10) ∧ (
          ((ys : List (List V)) = fidsV f11) ∧ (
          (l10.length ≤ 1000) ∧ (
          (okF l10) ∧ (
          (f11.length ≤ 1000) ∧ (
          (s.length ≤ 140737488351232) ∧ (
          ∃ l12 : List Sess, ∃ f13 : List Fid, ((xs : List (List V)) = sessV l12) ∧ (
          ((ys : List (List V)) = fidsV f13) ∧ (
          (l12.length ≤ 1000) ∧ (
          (okF l12) ∧ (
          (f13.length ≤ 1000) ∧ (
          (s.length ≤ 140737488351232) ∧ (
          ∃ a14 : List Sess, ∃ b15 : List Sess, ((sessV (keepF l10 s f11 t).1 : List (List V)) = sessV a14) ∧ (
          ((sessV (keepF l12 s f13 t).1 : List (List V)) = sessV b15) ∧ (
          (a14.length ≤ 1000) ∧ (
          (okF a14) ∧ (
          br (eqSess a14 b15) (
            br (eqI (keepF l10 s f11 t).2 (keepF l12 s f13 t).2) (
              ∃ l16 : List Sess, ((sessV (keepF l10 s f11 t).1 : List (List V)) = sessV l16) ∧ (
              (∀ j17 : Nat, ∀ s18 : Sess, ((l16.get?Internal j17 : Option Sess) = some s18) → (
              s18.1.length ≤ 140737488351232)) ∧ (
              br (rightB l16) (
                K (V.bool true) []) (
                K (V.bool false) [])))) (
              K (V.bool false) [])) (
            K (V.bool false) [])))))))))))))))))))))))))))) := by kernel_rfl

theorem len_vc (xs : List (List V)) (s : List UInt8) (t : Int) (K : V → List Bk → Prop) : vcF Tryd.prog cfgN (ctOf [(9, smCon), (11, rightCon), (12, rightCon), (20, resCon), (21, resCon), (22, expCon), (23, expCon), (19, ssCon), (24, sfCon), (10, okCon)]) (lpOf []) 6 [.lst xs, .str s, .int .i64 t] [] K = (
  ∃ l4 : List Sess, ((xs : List (List V)) = sessV l4) ∧ (
  ∀ b5 : Bool, (((b5 : Bool) = true) → (
  (l4.length ≤ 20) ∧ (
  ∀ j6 : Nat, ∀ s7 : Sess, ((l4.get?Internal j6 : Option Sess) = some s7) → (
  s7.2.length ≤ 40)))) → (
  br (notB b5) (
    K (V.bool true) []) (
    br (ltI 200 (lenS s)) (
      K (V.bool true) []) (
      ∃ l6 : List Sess, ((xs : List (List V)) = sessV l6) ∧ (
      (∀ j7 : Nat, ∀ s8 : Sess, ((l6.get?Internal j7 : Option Sess) = some s8) → (
      s8.1.length ≤ 140737488351232)) ∧ (
      br (notB (rightB l6)) (
        K (V.bool true) []) (
        ∃ l7 : List Sess, ((xs : List (List V)) = sessV l7) ∧ (
        (l7.length ≤ 1000) ∧ (
        (okF l7) ∧ (
        ∃ l8 : List Sess, ((xs : List (List V)) = sessV l8) ∧ (
        (l8.length ≤ 1000) ∧ (
        (okF l8) ∧ (
        ∃ l9 : List Sess, ((xs : List (List V)) = sessV l9) ∧ (
        (l9.length ≤ 1000) ∧ (
        (okF l9) ∧ (
        ∃ l10 : List Sess, ((xs : List (List V)) = sessV l10) ∧ (
        (l10.length ≤ 1000) ∧ (
        (okF l10) ∧ (
        ∃ a11 : List Sess, ∃ b12 : List Sess, ((sessV (resF l7 s t).1 : List (List V)) = sessV a11) ∧ (
        ((sessV (resF l8 s t).1 : List (List V)) = sessV b12) ∧ (
        (a11.length ≤ 1000) ∧ (
        (okF a11) ∧ (
        br (eqSess a11 b12) (
          ∃ a13 : List Fid, ∃ b14 : List Fid, ((fidsV (resF l7 s t).snd.1 : List (List V)) = fidsV a13) ∧ (
          ((fidsV (resF l8 s t).snd.1 : List (List V)) = fidsV b14) ∧ (
          (a13.length ≤ 100000) ∧ (
          br (eqFids a13 b14) (
            br (eqI (resF l7 s t).snd.2 (resF l8 s t).snd.2) (
              ∃ l15 : List Sess, ((sessV (resF l7 s t).1 : List (List V)) = sessV l15) ∧ (
              (∀ j16 : Nat, ∀ s17 : Sess, ((l15.get?Internal j16 : Option Sess) = some s17) → (
              s17.1.length ≤ 140737488351232)) ∧ (
              br (rightB l15) (
                ∃ a16 : List Sess, ∃ b17 : List Sess, ((sessV (leftF l9 t) : List (List V)) = sessV a16) ∧ (
                ((sessV (leftF l10 t) : List (List V)) = sessV b17) ∧ (
                (a16.length ≤ 1000) ∧ (
                (okF a16) ∧ (
                br (eqSess a16 b17) (
                  ∃ a18 : List Fid, ∃ b19 : List Fid, ((fidsV (goneF l9 t) : List (List V)) = fidsV a18) ∧ (
                  ((fidsV (goneF l10 t) : List (List V)) = fidsV b19) ∧ (
                  (a18.length ≤ 100000) ∧ (
                  br (eqFids a18 b19) (
                    ∃ l20 : List Sess, ((sessV (leftF l9 t) : List (List V)) = sessV l20) ∧ (
                    (∀ j21 : Nat, ∀ s22 : Sess, ((l20.get?Internal j21 : Option Sess) = some s22) → (
                    s22.1.length ≤ 140737488351232)) ∧ (
                    br (rightB l20) (
                      K (V.bool true) []) (
                      K (V.bool false) [])))) (
                    K (V.bool false) []))))) (
                  K (V.bool false) [])))))) (
                K (V.bool false) [])))) (
              K (V.bool false) [])) (
            K (V.bool false) []))))) (
          K (V.bool false) []))))))))))))))))))))))))) := by kernel_rfl

theorem lba_vc (xs : List (List V)) (s : List UInt8) (ys : List (List V)) (t u : Int) (K : V → List Bk → Prop) : vcF Tryd.prog cfgN (ctOf [(9, smCon), (16, fewCon), (11, rightCon), (12, rightCon), (17, keepCon), (20, resCon), (22, expCon), (19, ssCon), (24, sfCon), (10, okCon)]) (lpOf []) 7 [.lst xs, .str s, .lst ys, .int .i64 t, .int .i64 u] [] K = (
  ∃ l6 : List Sess, ((xs : List (List V)) = sessV l6) ∧ (
  ∀ b7 : Bool, (((b7 : Bool) = true) → (
  (l6.length ≤ 20) ∧ (
  ∀ j8 : Nat, ∀ s9 : Sess, ((l6.get?Internal j8 : Option Sess) = some s9) → (
  s9.2.length ≤ 40)))) → (
  br (notB b7) (
    K (V.bool true) []) (
    br (ltI 200 (lenS s)) (
      K (V.bool true) []) (
      ∃ l8 : List Fid, ((ys : List (List V)) = fidsV l8) ∧ (
      ∀ b9 : Bool, (((b9 : Bool) = true) → (
      l8.length ≤ 40)) → (
      br (notB b9) (
        K (V.bool true) []) (
        ∃ l10 : List Sess, ((xs : List (List V)) = sessV l10) ∧ (
        (∀ j11 : Nat, ∀ s12 : Sess, ((l10.get?Internal j11 : Option Sess) = some s12) → (
        s12.1.length ≤ 140737488351232)) ∧ (
        br (notB (rightB l10)) (
          K (V.bool true) []) (
          ∃ l11 : List Sess, ∃ f12 : List Fid, ((xs : List (List V)) = sessV l11) ∧ (
          ((ys : List (List V)) = fidsV f12) ∧ (
          (l11.length ≤ 1000) ∧ (
          (okF l11) ∧ (
          (f12.length ≤ 1000) ∧ (
          (s.length ≤ 140737488351232) ∧ (
          br (notB (eqI (keepF l11 s f12 t).2 0)) (
            ∃ a13 : List Sess, ∃ b14 : List Sess, ((sessV (keepF l11 s f12 t).1 : List (List V)) = sessV a13) ∧ (
            ((xs : List (List V)) = sessV b14) ∧ (
            (a13.length ≤ 1000) ∧ (
            (okF a13) ∧ (
            br (eqSess a13 b14) (
              K (V.bool true) []) (
              K (V.bool false) [])))))) (
            ∃ l13 : List Sess, ((sessV (keepF l11 s f12 t).1 : List (List V)) = sessV l13) ∧ (
            (l13.length ≤ 1000) ∧ (
            (okF l13) ∧ (
            br (ltI u t) (
              br (eqI (resF l13 s u).snd.2 0) (
                ∃ a14 : List Sess, ∃ b15 : List Sess, ((sessV (resF l13 s u).1 : List (List V)) = sessV a14) ∧ (
                ((xs : List (List V)) = sessV b15) ∧ (
                (a14.length ≤ 1000) ∧ (
                (okF a14) ∧ (
                br (eqSess a14 b15) (
                  ∃ a16 : List Fid, ∃ b17 : List Fid, ((fidsV (resF l13 s u).snd.1 : List (List V)) = fidsV a16) ∧ (
                  ((ys : List (List V)) = fidsV b17) ∧ (
                  (a16.length ≤ 100000) ∧ (
                  br (eqFids a16 b17) (
                    K (V.bool true) []) (
                    K (V.bool false) []))))) (
                  K (V.bool false) [])))))) (
                K (V.bool false) [])) (
              ∃ l14 : List Sess, ((sessV (keepF l11 s f12 t).1 : List (List V)) = sessV l14) ∧ (
              (l14.length ≤ 1000) ∧ (
              (okF l14) ∧ (
              ∃ l15 : List Sess, ((xs : List (List V)) = sessV l15) ∧ (
              (l15.length ≤ 1000) ∧ (
              (okF l15) ∧ (
              br (eqI (resF l13 s u).snd.2 31) (
                br (eqI (lenL (fidsV (resF l13 s u).snd.1)) 0) (
                  ∃ a16 : List Sess, ∃ b17 : List Sess, ((sessV (resF l13 s u).1 : List (List V)) = sessV a16) ∧ (
                  ((sessV (keepF l11 s f12 t).1 : List (List V)) = sessV b17) ∧ (
                  (a16.length ≤ 1000) ∧ (
                  (okF a16) ∧ (
                  br (eqSess a16 b17) (
                    ∃ a18 : List Sess, ∃ b19 : List Sess, ((sessV (leftF l14 u) : List (List V)) = sessV a18) ∧ (
                    ((sessV (leftF l15 u) : List (List V)) = sessV b19) ∧ (
                    (a18.length ≤ 1000) ∧ (
                    (okF a18) ∧ (
                    br (eqSess a18 b19) (
                      need (headOkP 7 (fidsV (goneF l15 u))) (
                      need (leN ((fidsV (goneF l15 u)).length * 56) 140737488355328) (
                      need (headOkP 7 ys) (
                      need (headOkP 7 (fidsV (goneF l15 u))) (
                      br (leN ((fidsV (goneF l15 u)).length + ys.length) (fidsV (goneF l15 u)).length) (
                        ∃ a20 : List Fid, ∃ b21 : List Fid, ((fidsV (goneF l14 u) : List (List V)) = fidsV a20) ∧ (
                        ((List.take ((fidsV (goneF l15 u)).length + ys.length) (List.drop 0 (List.take (0 + (fidsV (goneF l15 u)).length) (fidsV (goneF l15 u)) ++ ys ++ List.drop (0 + (fidsV (goneF l15 u)).length + ys.length) (fidsV (goneF l15 u)))) : List (List V)) = fidsV b21) ∧ (
                        (a20.length ≤ 100000) ∧ (
                        br (eqFids a20 b21) (
                          K (V.bool true) []) (
                          K (V.bool false) []))))) (
                        need (eqN (0 + (fidsV (goneF l15 u)).length) (fidsV (goneF l15 u)).length) (
                        need (leN (((fidsV (goneF l15 u)).length + ys.length) * 56) 140737488355328) (
                        ∃ a20 : List Fid, ∃ b21 : List Fid, ((fidsV (goneF l14 u) : List (List V)) = fidsV a20) ∧ (
                        ((List.take ((fidsV (goneF l15 u)).length + ys.length) (List.drop 0 (List.drop 0 (fidsV (goneF l15 u)) ++ ys)) : List (List V)) = fidsV b21) ∧ (
                        (a20.length ≤ 100000) ∧ (
                        br (eqFids a20 b21) (
                          K (V.bool true) []) (
                          K (V.bool false) [])))))))))))) (
                      K (V.bool false) [])))))) (
                    K (V.bool false) [])))))) (
                  K (V.bool false) [])) (
                K (V.bool false) []))))))))))))))))))))))))))))) := by kernel_rfl

end Go.Proofs.YtjilikmpfmifkaaDoor
namespace Go.Proofs.YtjilikmpfmifkaaDoor
open Go.RowKit
set_option maxRecDepth 100000
set_option linter.unusedVariables false
set_option linter.unusedSimpArgs false
def goodS (s : Sess) : Prop := validF s.name = true ∧ fidsB s.fids = true ∧ 0 ≤ s.til ∧ s.til ≤ 1099511627840
def apart (l : List Sess) : Prop := l.Pairwise fun a b => a.name ≠ b.name
theorem idxF_at {s : List UInt8} {l : List Sess} {i : Nat} {f : Sess} (h : l[i]? = some f) (hn : f.name = s) (hp : ∀ (j : Nat) g, j < i → l[j]? = some g → g.name ≠ s) : idxF l s = (i : Int) := by
  unfold idxF; rw [idxN_at h hn hp]; simp
theorem rightB_iff2 {l : List Sess} : rightB l = true ↔ l.length ≤ 16 ∧ (∀ s ∈ l, goodS s) ∧ apart l := by
  rw [rightB_iff]
  constructor
  · rintro ⟨h1, h2⟩
    refine ⟨h1, fun s hs => ?_, ?_⟩
    · obtain ⟨j, hj⟩ := List.mem_iff_getElem?.1 hs
      obtain ⟨s', e1, e2, _, e3, e4, e5⟩ := h2 j (List.getElem?_eq_some_iff.1 hj).1
      rw [hj] at e1; cases e1
      exact ⟨e2, e3, e4, e5⟩
    · refine List.pairwise_iff_getElem.2 fun i j hi hj hij he => ?_
      obtain ⟨s, e1, _, e3, _⟩ := h2 j hj
      have hl : l[j] = s := by rw [List.getElem?_eq_getElem hj] at e1; exact Option.some.inj e1
      obtain ⟨_, h5⟩ := idxF_le (l := l) (i := i) (f := l[i]) (List.getElem?_eq_getElem hi)
      rw [he, hl, e3] at h5
      omega
  · rintro ⟨h1, h2, h3⟩
    refine ⟨h1, fun j hj => ?_⟩
    have hm := h2 l[j] (List.getElem_mem hj)
    refine ⟨l[j], List.getElem?_eq_getElem hj, hm.1, idxF_at (List.getElem?_eq_getElem hj) rfl fun i g hi hg he => ?_, hm.2.1, hm.2.2.1, hm.2.2.2⟩
    obtain ⟨hil, rfl⟩ := List.getElem?_eq_some_iff.1 hg
    exact List.pairwise_iff_getElem.1 h3 i j hil hj hi he
theorem right_sub {l l' : List Sess} (h : rightB l = true) (hs : List.Sublist l' l) : rightB l' = true := by
  rw [rightB_iff2] at h ⊢
  exact ⟨Nat.le_trans hs.length_le h.1, fun s hm => h.2.1 s (hs.subset hm), h.2.2.sublist hs⟩
theorem idxF_none {s : List UInt8} {l : List Sess} (h : idxF l s < 0) : ∀ a ∈ l, a.name ≠ s := fun a ha hn => by
  obtain ⟨j, hj⟩ := List.mem_iff_getElem?.1 ha
  have := (idxF_le hj).1
  rw [hn] at this
  omega
theorem keepF_cases (l : List Sess) (s : List UInt8) (f : List Fid) (t : Int) : ((keepF l s f t).1 = l ∧ (keepF l s f t).2 ≠ 0) ∨
    (keepF l s f t = (l ++ [⟨s, f, t⟩], 0) ∧ validF s = true ∧ 0 ≤ t ∧ t ≤ 1099511627840 ∧ fidsB f = true ∧ idxF l s < 0 ∧ l.length < 16) := by
  unfold keepF
  split
  · exact .inl (by simp)
  · split
    · exact .inl (by simp)
    · split
      · exact .inl (by simp)
      · split
        · exact .inl (by simp)
        · split
          · exact .inl (by simp)
          · rename_i a1 a2 a3 a4 a5
            exact .inr ⟨rfl, by simpa using a1, by omega, by omega, by simpa using a3, by omega, by omega⟩
theorem keep_right {l : List Sess} {s : List UInt8} {f : List Fid} {t : Int} (h : rightB l = true) : rightB (keepF l s f t).1 = true := by
  rcases keepF_cases l s f t with ⟨e, _⟩ | ⟨e, h1, h2, h3, h4, h5, h6⟩
  · rw [e]; exact h
  · rw [e]
    rw [rightB_iff2] at h ⊢
    refine ⟨by simp; omega, fun x hx => ?_, List.pairwise_append.2 ⟨h.2.2, by simp, fun a ha b hb => ?_⟩⟩
    · rcases List.mem_append.1 hx with hx | hx
      · exact h.2.1 x hx
      · obtain rfl := List.mem_singleton.1 hx
        exact ⟨h1, h4, h2, h3⟩
    · obtain rfl := List.mem_singleton.1 hb
      exact idxF_none h5 a ha
theorem res_cases (l : List Sess) (s : List UInt8) (t : Int) : List.Sublist (resF l s t).1 l ∧ (∀ B, okF l → B = 1000 → (resF l s t).2.1.length ≤ B) := by
  unfold resF
  split
  · rename_i x hx
    split
    · exact ⟨List.eraseIdx_sublist .., fun B h e => by subst e; exact h x (List.mem_of_getElem? hx)⟩
    · exact ⟨List.Sublist.refl _, fun B _ _ => by simp⟩
  · exact ⟨List.Sublist.refl _, fun B _ _ => by simp⟩
theorem okF_sub {l l' : List Sess} (h : okF l) (hs : List.Sublist l' l) : okF l' := fun s hm => h s (hs.subset hm)
theorem okF_of {l : List Sess} (h : ∀ (j : Nat) s, l[j]? = some s → s.fids.length ≤ 40) : okF l := fun s hs => by
  obtain ⟨j, hj⟩ := List.mem_iff_getElem?.1 hs
  have := h j s hj
  omega
def zs (l : List Sess) : Prop := ∀ (j : Nat) s, l[j]? = some s → s.name.length ≤ 140737488351232
theorem zs_of {l : List Sess} (h : ∀ s ∈ l, s.name.length ≤ 140737488351232) : zs l := fun j s hj => h s (List.mem_of_getElem? hj)
theorem zs_sub {l l' : List Sess} (h : zs l) (hs : List.Sublist l' l) : zs l' := zs_of fun s hm => by
  obtain ⟨j, hj⟩ := List.mem_iff_getElem?.1 (hs.subset hm)
  exact h j s hj
theorem zs_keep {l : List Sess} {s : List UInt8} {f : List Fid} {t : Int} (h : zs l) (hs : s.length ≤ 140737488351232) : zs (keepF l s f t).1 := by
  rcases keepF_cases l s f t with ⟨e, _⟩ | ⟨e, _⟩
  · rw [e]; exact h
  · rw [e]
    refine zs_of fun x hx => ?_
    rcases List.mem_append.1 hx with hx | hx
    · obtain ⟨j, hj⟩ := List.mem_iff_getElem?.1 hx
      exact h j x hj
    · obtain rfl := List.mem_singleton.1 hx
      exact hs
theorem okF_keep {l : List Sess} {s : List UInt8} {f : List Fid} {t : Int} (h : okF l) (hf : f.length ≤ 1000) : okF (keepF l s f t).1 := by
  rcases keepF_cases l s f t with ⟨e, _⟩ | ⟨e, _⟩
  · rw [e]; exact h
  · rw [e]
    intro x hx
    rcases List.mem_append.1 hx with hx | hx
    · exact h x hx
    · obtain rfl := List.mem_singleton.1 hx
      exact hf
theorem keep_len {l : List Sess} {s : List UInt8} {f : List Fid} {t : Int} : (keepF l s f t).1.length ≤ l.length + 1 := by
  rcases keepF_cases l s f t with ⟨e, _⟩ | ⟨e, _⟩
  · rw [e]; omega
  · rw [e]; simp
theorem keeps_says {l : List Sess} {s : List UInt8} {f : List Fid} {t : Int} (hz : zs l) (hs : s.length ≤ 140737488351232) : Says 5 [.lst (sessV l), .str s, .lst (fidsV f), .int .i64 t] := by
  refine run_of (lp := lpOf []) (ct := ctOf [(9, smCon), (16, fewCon), (11, rightCon), (12, rightCon), (17, keepCon), (18, keepCon), (19, ssCon), (10, okCon)]) (by omega)
    (fun k hk => ctOf_ok (ctOf_cons (sm_con (by omega)) (ctOf_cons (few_con (by omega)) (ctOf_cons (sr_con (by omega)) (ctOf_cons (rr_con (by omega)) (ctOf_cons (kp_con (by omega)) (ctOf_cons (rk_con (by omega)) (ctOf_cons (ss_con (by omega)) (ctOf_cons (ok_con (by omega)) (ctOf_nil _)))))))))) ?_
  rw [lke_vc]
  have tt : (V.bool true = V.bool true ∧ ([] : List Bk) = []) := ⟨rfl, rfl⟩
  refine ⟨l, rfl, fun b hb => ?_⟩
  rw [br_iff]; refine ⟨fun _ => tt, fun g1 => ?_⟩
  obtain ⟨a1, a2⟩ := hb (by simp only [br_iff, need_iff, andB_t, andB_f, orB_t, orB_f, notB_t, notB_f, leI_t, leI_f, ltI_t, ltI_f, eqI_t, eqI_f, leN_t, leN_f, eqN_t, eqN_f, eqS_t, eqS_f, eqB_t, eqB_f, catOk_t, leC_t] at g1; exact g1)
  rw [br_iff]; refine ⟨fun _ => tt, fun g2 => ?_⟩
  refine ⟨f, rfl, fun b2 hb2 => ?_⟩
  rw [br_iff]; refine ⟨fun _ => tt, fun g3 => ?_⟩
  have a3 := hb2 (by simp only [br_iff, need_iff, andB_t, andB_f, orB_t, orB_f, notB_t, notB_f, leI_t, leI_f, ltI_t, ltI_f, eqI_t, eqI_f, leN_t, leN_f, eqN_t, eqN_f, eqS_t, eqS_f, eqB_t, eqB_f, catOk_t, leC_t] at g3; exact g3)
  refine ⟨l, rfl, hz, ?_⟩
  rw [br_iff]; refine ⟨fun _ => tt, fun g4 => ?_⟩
  have hr : rightB l = true := by simp only [br_iff, need_iff, andB_t, andB_f, orB_t, orB_f, notB_t, notB_f, leI_t, leI_f, ltI_t, ltI_f, eqI_t, eqI_f, leN_t, leN_f, eqN_t, eqN_f, eqS_t, eqS_f, eqB_t, eqB_f, catOk_t, leC_t] at g4; exact g4
  have ho : okF l := okF_of a2
  refine ⟨l, f, rfl, rfl, by omega, ho, by omega, hs, l, f, rfl, rfl, by omega, ho, by omega, hs, _, _, rfl, rfl, by have := keep_len (l := l) (s := s) (f := f) (t := t); omega, okF_keep ho (by omega), ?_⟩
  rw [eqSess_t.2 rfl, show eqI (keepF l s f t).2 (keepF l s f t).2 = true by simp [eqI]]
  simp only [leN_succ, eqN_self, leI_self, br_ff, br_tt, need_tt, andB_tt, List.drop_zero, List.nil_append, List.append_nil, Nat.zero_add, Nat.add_zero, Nat.sub_zero, List.take_length, Int.ofNat_eq_natCast, Int.toNat_natCast, Int.toNat_zero]
  refine ⟨_, rfl, zs_keep hz hs, ?_⟩
  rw [keep_right hr]
  exact ⟨trivial, trivial⟩
theorem ends_says {l : List Sess} {s : List UInt8} {t : Int} (hz : zs l) (hs : s.length ≤ 140737488351232) : Says 6 [.lst (sessV l), .str s, .int .i64 t] := by
  refine run_of (lp := lpOf []) (ct := ctOf [(9, smCon), (11, rightCon), (12, rightCon), (20, resCon), (21, resCon), (22, expCon), (23, expCon), (19, ssCon), (24, sfCon), (10, okCon)]) (by omega)
    (fun k hk => ctOf_ok (ctOf_cons (sm_con (by omega)) (ctOf_cons (sr_con (by omega)) (ctOf_cons (rr_con (by omega)) (ctOf_cons (rs_con (by omega)) (ctOf_cons (rr2_con (by omega)) (ctOf_cons (se_con (by omega)) (ctOf_cons (re_con (by omega)) (ctOf_cons (ss_con (by omega)) (ctOf_cons (sf_con (by omega)) (ctOf_cons (ok_con (by omega)) (ctOf_nil _)))))))))))) ?_
  rw [len_vc]
  have tt : (V.bool true = V.bool true ∧ ([] : List Bk) = []) := ⟨rfl, rfl⟩
  refine ⟨l, rfl, fun b hb => ?_⟩
  rw [br_iff]; refine ⟨fun _ => tt, fun g1 => ?_⟩
  obtain ⟨a1, a2⟩ := hb (by simp only [br_iff, need_iff, andB_t, andB_f, orB_t, orB_f, notB_t, notB_f, leI_t, leI_f, ltI_t, ltI_f, eqI_t, eqI_f, leN_t, leN_f, eqN_t, eqN_f, eqS_t, eqS_f, eqB_t, eqB_f, catOk_t, leC_t] at g1; exact g1)
  rw [br_iff]; refine ⟨fun _ => tt, fun g2 => ?_⟩
  refine ⟨l, rfl, hz, ?_⟩
  rw [br_iff]; refine ⟨fun _ => tt, fun g4 => ?_⟩
  have hr : rightB l = true := by simp only [br_iff, need_iff, andB_t, andB_f, orB_t, orB_f, notB_t, notB_f, leI_t, leI_f, ltI_t, ltI_f, eqI_t, eqI_f, leN_t, leN_f, eqN_t, eqN_f, eqS_t, eqS_f, eqB_t, eqB_f, catOk_t, leC_t] at g4; exact g4
  have ho : okF l := okF_of a2
  obtain ⟨hsub, hfl⟩ := res_cases l s t
  have hsub2 : List.Sublist (leftF l t) l := List.filter_sublist
  have hl1 := hsub.length_le
  have hl2 := hsub2.length_le
  refine ⟨l, rfl, by omega, ho, l, rfl, by omega, ho, l, rfl, by omega, ho, l, rfl, by omega, ho, _, _, rfl, rfl, by omega, okF_sub ho hsub, ?_⟩
  rw [eqSess_t.2 rfl]
  simp only [leN_succ, eqN_self, leI_self, br_ff, br_tt, need_tt, andB_tt, List.drop_zero, List.nil_append, List.append_nil, Nat.zero_add, Nat.add_zero, Nat.sub_zero, List.take_length, Int.ofNat_eq_natCast, Int.toNat_natCast, Int.toNat_zero]
  refine ⟨_, _, rfl, rfl, by have := hfl _ ho rfl; omega, ?_⟩
  rw [eqFids_t.2 rfl, show eqI (resF l s t).2.2 (resF l s t).2.2 = true by simp [eqI]]
  simp only [leN_succ, eqN_self, leI_self, br_ff, br_tt, need_tt, andB_tt, List.drop_zero, List.nil_append, List.append_nil, Nat.zero_add, Nat.add_zero, Nat.sub_zero, List.take_length, Int.ofNat_eq_natCast, Int.toNat_natCast, Int.toNat_zero]
  refine ⟨_, rfl, zs_sub hz hsub, ?_⟩
  rw [right_sub hr hsub]
  simp only [leN_succ, eqN_self, leI_self, br_ff, br_tt, need_tt, andB_tt, List.drop_zero, List.nil_append, List.append_nil, Nat.zero_add, Nat.add_zero, Nat.sub_zero, List.take_length, Int.ofNat_eq_natCast, Int.toNat_natCast, Int.toNat_zero]
  refine ⟨_, _, rfl, rfl, by omega, okF_sub ho hsub2, ?_⟩
  rw [eqSess_t.2 rfl]
  simp only [leN_succ, eqN_self, leI_self, br_ff, br_tt, need_tt, andB_tt, List.drop_zero, List.nil_append, List.append_nil, Nat.zero_add, Nat.add_zero, Nat.sub_zero, List.take_length, Int.ofNat_eq_natCast, Int.toNat_natCast, Int.toNat_zero]
  refine ⟨_, _, rfl, rfl, by have := goneF_len (t := t) ho; omega, ?_⟩
  rw [eqFids_t.2 rfl]
  simp only [leN_succ, eqN_self, leI_self, br_ff, br_tt, need_tt, andB_tt, List.drop_zero, List.nil_append, List.append_nil, Nat.zero_add, Nat.add_zero, Nat.sub_zero, List.take_length, Int.ofNat_eq_natCast, Int.toNat_natCast, Int.toNat_zero]
  refine ⟨_, rfl, zs_sub hz hsub2, ?_⟩
  rw [right_sub hr hsub2]
  exact ⟨trivial, trivial⟩
end Go.Proofs.YtjilikmpfmifkaaDoor
namespace Go.Proofs.YtjilikmpfmifkaaDoor
open Go.RowKit
set_option maxRecDepth 100000
set_option linter.unusedVariables false
set_option linter.unusedSimpArgs false
theorem idxF_last {l : List Sess} {x : Sess} (h : idxF l x.name < 0) : idxF (l ++ [x]) x.name = (l.length : Int) :=
  idxF_at (f := x) (by simp) rfl fun j g hj hg => by
    rw [List.getElem?_append_left hj] at hg
    exact idxF_none h g (List.mem_of_getElem? hg)
theorem res_last {l : List Sess} {x : Sess} {u : Int} (h : idxF l x.name < 0) : resF (l ++ [x]) x.name u = if u < x.til then (l, x.fids, 0) else (l ++ [x], [], 31) := by
  rw [resF_at (idxF_last h) (by simp : (l ++ [x])[l.length]? = some x)]
  rw [show (l ++ [x]).eraseIdx l.length = l by simp [List.eraseIdx_eq_take_drop_succ]]
theorem back_says {l : List Sess} {s : List UInt8} {f : List Fid} {t u : Int} (hz : zs l) (hs : s.length ≤ 140737488351232) : Says 7 [.lst (sessV l), .str s, .lst (fidsV f), .int .i64 t, .int .i64 u] := by
  refine run_of (lp := lpOf []) (ct := ctOf [(9, smCon), (16, fewCon), (11, rightCon), (12, rightCon), (17, keepCon), (20, resCon), (22, expCon), (19, ssCon), (24, sfCon), (10, okCon)]) (by omega)
    (fun k hk => ctOf_ok (ctOf_cons (sm_con (by omega)) (ctOf_cons (few_con (by omega)) (ctOf_cons (sr_con (by omega)) (ctOf_cons (rr_con (by omega)) (ctOf_cons (kp_con (by omega)) (ctOf_cons (rs_con (by omega)) (ctOf_cons (se_con (by omega)) (ctOf_cons (ss_con (by omega)) (ctOf_cons (sf_con (by omega)) (ctOf_cons (ok_con (by omega)) (ctOf_nil _)))))))))))) ?_
  rw [lba_vc]
  have tt : (V.bool true = V.bool true ∧ ([] : List Bk) = []) := ⟨rfl, rfl⟩
  refine ⟨l, rfl, fun b hb => ?_⟩
  rw [br_iff]; refine ⟨fun _ => tt, fun g1 => ?_⟩
  obtain ⟨a1, a2⟩ := hb (by simp only [br_iff, need_iff, andB_t, andB_f, orB_t, orB_f, notB_t, notB_f, leI_t, leI_f, ltI_t, ltI_f, eqI_t, eqI_f, leN_t, leN_f, eqN_t, eqN_f, eqS_t, eqS_f, eqB_t, eqB_f, catOk_t, leC_t] at g1; exact g1)
  rw [br_iff]; refine ⟨fun _ => tt, fun g2 => ?_⟩
  refine ⟨f, rfl, fun b2 hb2 => ?_⟩
  rw [br_iff]; refine ⟨fun _ => tt, fun g3 => ?_⟩
  have a3 := hb2 (by simp only [br_iff, need_iff, andB_t, andB_f, orB_t, orB_f, notB_t, notB_f, leI_t, leI_f, ltI_t, ltI_f, eqI_t, eqI_f, leN_t, leN_f, eqN_t, eqN_f, eqS_t, eqS_f, eqB_t, eqB_f, catOk_t, leC_t] at g3; exact g3)
  refine ⟨l, rfl, hz, ?_⟩
  rw [br_iff]; refine ⟨fun _ => tt, fun g4 => ?_⟩
  have hr : rightB l = true := by simp only [br_iff, need_iff, andB_t, andB_f, orB_t, orB_f, notB_t, notB_f, leI_t, leI_f, ltI_t, ltI_f, eqI_t, eqI_f, leN_t, leN_f, eqN_t, eqN_f, eqS_t, eqS_f, eqB_t, eqB_f, catOk_t, leC_t] at g4; exact g4
  have ho : okF l := okF_of a2
  refine ⟨l, f, rfl, rfl, by omega, ho, by omega, hs, ?_⟩
  have hk1 := keep_len (l := l) (s := s) (f := f) (t := t)
  have ho2 : okF (keepF l s f t).1 := okF_keep ho (by omega)
  rcases keepF_cases l s f t with ⟨e, e2⟩ | ⟨e, h1, h2, h3, h4, h5, h6⟩
  · rw [show eqI (keepF l s f t).2 0 = false by simp [eqI, e2], e]
    simp only [show notB false = true from rfl, leN_succ, eqN_self, leI_self, br_ff, br_tt, need_tt, andB_tt, List.drop_zero, List.nil_append, List.append_nil, Nat.zero_add, Nat.add_zero, Nat.sub_zero, List.take_length, Int.ofNat_eq_natCast, Int.toNat_natCast, Int.toNat_zero]
    refine ⟨_, _, rfl, rfl, by omega, ho, ?_⟩
    rw [eqSess_t.2 rfl]
    exact ⟨trivial, trivial⟩
  · rw [e] at ho2 hk1
    rw [e]
    have e3 : resF (l ++ [⟨s, f, t⟩]) s u = if u < t then (l, f, 0) else (l ++ [⟨s, f, t⟩], [], 31) := res_last (x := ⟨s, f, t⟩) h5
    simp only [show eqI 0 0 = true from rfl, show notB true = false from rfl, leN_succ, eqN_self, leI_self, br_ff, br_tt, need_tt, andB_tt, List.drop_zero, List.nil_append, List.append_nil, Nat.zero_add, Nat.add_zero, Nat.sub_zero, List.take_length, Int.ofNat_eq_natCast, Int.toNat_natCast, Int.toNat_zero]
    refine ⟨_, rfl, by simp only at hk1; omega, ho2, ?_⟩
    rw [br_iff]
    refine ⟨fun g => ?_, fun g => ?_⟩
    · rw [if_pos (by simp only [br_iff, need_iff, andB_t, andB_f, orB_t, orB_f, notB_t, notB_f, leI_t, leI_f, ltI_t, ltI_f, eqI_t, eqI_f, leN_t, leN_f, eqN_t, eqN_f, eqS_t, eqS_f, eqB_t, eqB_f, catOk_t, leC_t] at g; exact g)] at e3
      simp only [e3, show eqI 0 0 = true from rfl, leN_succ, eqN_self, leI_self, br_ff, br_tt, need_tt, andB_tt, List.drop_zero, List.nil_append, List.append_nil, Nat.zero_add, Nat.add_zero, Nat.sub_zero, List.take_length, Int.ofNat_eq_natCast, Int.toNat_natCast, Int.toNat_zero]
      refine ⟨_, _, rfl, rfl, by omega, ho, ?_⟩
      rw [eqSess_t.2 rfl]
      simp only [leN_succ, eqN_self, leI_self, br_ff, br_tt, need_tt, andB_tt, List.drop_zero, List.nil_append, List.append_nil, Nat.zero_add, Nat.add_zero, Nat.sub_zero, List.take_length, Int.ofNat_eq_natCast, Int.toNat_natCast, Int.toNat_zero]
      refine ⟨_, _, rfl, rfl, by omega, ?_⟩
      rw [eqFids_t.2 rfl]
      exact ⟨trivial, trivial⟩
    · have hut : ¬ u < t := by simp only [br_iff, need_iff, andB_t, andB_f, orB_t, orB_f, notB_t, notB_f, leI_t, leI_f, ltI_t, ltI_f, eqI_t, eqI_f, leN_t, leN_f, eqN_t, eqN_f, eqS_t, eqS_f, eqB_t, eqB_f, catOk_t, leC_t] at g; omega
      rw [if_neg hut] at e3
      refine ⟨_, rfl, by simp only at hk1; omega, ho2, l, rfl, by omega, ho, ?_⟩
      simp only [e3, show eqI 31 31 = true from rfl, fidsV_lenL, List.length_nil, show eqI ((0 : Nat) : Int) 0 = true from rfl, leN_succ, eqN_self, leI_self, br_ff, br_tt, need_tt, andB_tt, List.drop_zero, List.nil_append, List.append_nil, Nat.zero_add, Nat.add_zero, Nat.sub_zero, List.take_length, Int.ofNat_eq_natCast, Int.toNat_natCast, Int.toNat_zero]
      refine ⟨_, _, rfl, rfl, by simp only at hk1; omega, ho2, ?_⟩
      rw [eqSess_t.2 rfl]
      simp only [leN_succ, eqN_self, leI_self, br_ff, br_tt, need_tt, andB_tt, List.drop_zero, List.nil_append, List.append_nil, Nat.zero_add, Nat.add_zero, Nat.sub_zero, List.take_length, Int.ofNat_eq_natCast, Int.toNat_natCast, Int.toNat_zero]
      have f1 : leftF (l ++ [⟨s, f, t⟩]) u = leftF l u := by simp [leftF, List.filter_append, hut]
      have f2 : goneF (l ++ [⟨s, f, t⟩]) u = goneF l u ++ f := by simp [goneF, List.filter_append, hut]
      have q1 := leftF_len l u
      have q2 := goneF_len (t := u) ho
      simp only [f1]
      refine ⟨_, _, rfl, rfl, by omega, okF_sub ho List.filter_sublist, ?_⟩
      rw [eqSess_t.2 rfl]
      simp only [leN_succ, eqN_self, leI_self, br_ff, br_tt, need_tt, andB_tt, List.drop_zero, List.nil_append, List.append_nil, Nat.zero_add, Nat.add_zero, Nat.sub_zero, List.take_length, Int.ofNat_eq_natCast, Int.toNat_natCast, Int.toNat_zero, fidsV_head, f2]
      have q3 := fidsV_len (goneF l u)
      have q4 := fidsV_len f
      rw [need_iff]; refine ⟨by simp only [br_iff, need_iff, andB_t, andB_f, orB_t, orB_f, notB_t, notB_f, leI_t, leI_f, ltI_t, ltI_f, eqI_t, eqI_f, leN_t, leN_f, eqN_t, eqN_f, eqS_t, eqS_f, eqB_t, eqB_f, catOk_t, leC_t]; omega, ?_⟩
      rw [br_iff]
      have fin : List.take ((fidsV (goneF l u)).length + (fidsV f).length) (fidsV (goneF l u) ++ fidsV f) = fidsV (goneF l u ++ f) := by rw [takeApp, fidsV_app]
      refine ⟨fun _ => ?_, fun _ => ?_⟩
      · refine ⟨_, _, rfl, by simp only [appIn, appIn']; exact fin, by simp; omega, ?_⟩
        rw [eqFids_t.2 rfl]
        exact ⟨trivial, trivial⟩
      · rw [need_iff]; refine ⟨by simp only [br_iff, need_iff, andB_t, andB_f, orB_t, orB_f, notB_t, notB_f, leI_t, leI_f, ltI_t, ltI_f, eqI_t, eqI_f, leN_t, leN_f, eqN_t, eqN_f, eqS_t, eqS_f, eqB_t, eqB_f, catOk_t, leC_t]; omega, ?_⟩
        refine ⟨_, _, rfl, fin, by simp; omega, ?_⟩
        rw [eqFids_t.2 rfl]
        exact ⟨trivial, trivial⟩
def keepsSh : List Sh := [sesssSh, .str, .slice 56 7 fidSh, .int .i64]
def endsSh : List Sh := [sesssSh, .str, .int .i64]
def backSh : List Sh := [sesssSh, .str, .slice 56 7 fidSh, .int .i64, .int .i64]
theorem fids_fits {v : V} (h : FitsA (.slice 56 7 fidSh) v) : ∃ l : List Fid, v = .lst (fidsV l) := by
  obtain ⟨xs, h1, _, h2⟩ := h
  obtain ⟨l, rfl, hl⟩ := rows_of Fid.v (fun a => a.fit) (fun q hq => Fid.fits (h2 q hq).2)
  exact ⟨l, by simpa [fidsV] using h1⟩
theorem zs_fit {l : List Sess} (h : ∀ a ∈ l, a.fit) : zs l := zs_of fun s hs => (h s hs).1
theorem keeps_fits {us : List V} (h : FitsAll keepsSh us) : Says 5 us := by
  obtain ⟨v0, r0, rfl, h0, v1, r1, rfl, h1, v2, r2, rfl, h2, v3, r3, rfl, h3, rfl⟩ := h
  obtain ⟨l, rfl, hl⟩ := sess_fits h0
  obtain ⟨s, hs, hs2⟩ := h1
  obtain ⟨f, rfl⟩ := fids_fits h2
  obtain ⟨t, ht, _⟩ := h3
  simp only [List.cons.injEq, and_true] at hs ht
  subst hs; subst ht
  exact keeps_says (zs_fit hl) hs2
theorem ends_fits {us : List V} (h : FitsAll endsSh us) : Says 6 us := by
  obtain ⟨v0, r0, rfl, h0, v1, r1, rfl, h1, v3, r3, rfl, h3, rfl⟩ := h
  obtain ⟨l, rfl, hl⟩ := sess_fits h0
  obtain ⟨s, hs, hs2⟩ := h1
  obtain ⟨t, ht, _⟩ := h3
  simp only [List.cons.injEq, and_true] at hs ht
  subst hs; subst ht
  exact ends_says (zs_fit hl) hs2
theorem back_fits {us : List V} (h : FitsAll backSh us) : Says 7 us := by
  obtain ⟨v0, r0, rfl, h0, v1, r1, rfl, h1, v2, r2, rfl, h2, v3, r3, rfl, h3, v4, r4, rfl, h4, rfl⟩ := h
  obtain ⟨l, rfl, hl⟩ := sess_fits h0
  obtain ⟨s, hs, hs2⟩ := h1
  obtain ⟨f, rfl⟩ := fids_fits h2
  obtain ⟨t, ht, _⟩ := h3
  obtain ⟨u, hu, _⟩ := h4
  simp only [List.cons.injEq, and_true] at hs ht hu
  subst hs; subst ht; subst hu
  exact back_says (zs_fit hl) hs2
end Go.Proofs.YtjilikmpfmifkaaDoor
