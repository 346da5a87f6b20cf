/- Trees: conditions of the law of walking. -/
import Derived.Test.YtepehbbagbfmcaaTrCalls
import Derived.Test.YtepehbbagbfmcaaTrKeep
namespace Go.Proofs.Ytepehbbagbfmcaa
open Go.RowKit
set_option maxRecDepth 100000
set_option linter.unusedVariables false
set_option linter.unusedSimpArgs false
def splitS : List UInt8 → List (List UInt8)
  | [] => [[]]
  | c :: t => if c = 47 then [] :: splitS t else match splitS t with
    | a :: r => (c :: a) :: r
    | [] => [[c]]

def isParts (l : List (List UInt8)) (p : List UInt8) : Prop := l = splitS p

def partsCon : Con := fun vs bs K => match vs, bs with
  | [.str p], [] => p.length ≤ 1000000 ∧ ∀ l : List (List UInt8), isParts l p → K (.lst (rowsS l)) []
  | _, _ => False

structure poC where
  p : List UInt8
structure poX where
  n : Nat
  m : Nat
  ys : List (List V)
  w : Int
  i : Int
def poSt (c : poC) (x : poX) : St := ⟨[(0, .str c.p), (3, .ref 0 0 x.n x.m), (4, .int .i64 x.w), (5, .int .i64 x.i)], [(0, ⟨true, false, true, x.ys, 0⟩)]⟩
set_option maxHeartbeats 4000000 in
def poUn (s : St) : Option (poC × poX) :=
  match s with
  | ⟨[(q0, .str p), (q1, .ref q2 q3 n m), (q4, .int .i64 w), (q5, .int .i64 i)], [(q6, ⟨true, false, true, ys, q7⟩)]⟩ => bif Nat.beq q0 0 && Nat.beq q1 3 && Nat.beq q2 0 && Nat.beq q3 0 && Nat.beq q4 4 && Nat.beq q5 5 && Nat.beq q6 0 && Nat.beq q7 0 then some (⟨p⟩, ⟨n, m, ys, w, i⟩) else none
  | _ => none
set_option maxHeartbeats 4000000 in
def poL (inv : poC → poX → poX → Nat → Prop) : LoopS where
  C := poC
  X := poX
  st := poSt
  un := poUn
  ok := by
    intro s c x h
    unfold poUn at h
    split at h
    · simp only [Bool.cond_eq_ite] at h
      split at h
      · rename_i hg
        simp only [Bool.and_eq_true, Nat.beq_eq] at hg
        obtain ⟨⟨⟨⟨⟨⟨⟨rfl, rfl⟩, rfl⟩, rfl⟩, rfl⟩, rfl⟩, rfl⟩, rfl⟩ := hg
        cases h
        rfl
      · cases h
    · cases h
  inv := inv

structure wlC where
  s : Int
  next : Int
  xs : List (List V)
  rs : List (List V)
  cnt : Int
structure wlX where
  a : Int
  i : Int
def wlSt (c : wlC) (x : wlX) : St := ⟨[(1, .int .i64 c.s), (2, .ptr 0 0 0), (9, .int .i64 x.a), (10, .lst c.rs), (45, .int .i64 c.cnt), (46, .int .i64 x.i)], [(0, ⟨true, true, true, [[.int .i64 c.next, .lst c.xs]], 0⟩)]⟩
set_option maxHeartbeats 4000000 in
def wlUn (s : St) : Option (wlC × wlX) :=
  match s with
  | ⟨[(q0, .int .i64 s), (q1, .ptr q2 q3 q4), (q5, .int .i64 a), (q6, .lst rs), (q7, .int .i64 cnt), (q8, .int .i64 i)], [(q9, ⟨true, true, true, [[.int .i64 next, .lst xs]], q10⟩)]⟩ => bif Nat.beq q0 1 && Nat.beq q1 2 && Nat.beq q2 0 && Nat.beq q3 0 && Nat.beq q4 0 && Nat.beq q5 9 && Nat.beq q6 10 && Nat.beq q7 45 && Nat.beq q8 46 && Nat.beq q9 0 && Nat.beq q10 0 then some (⟨s, next, xs, rs, cnt⟩, ⟨a, i⟩) else none
  | _ => none
set_option maxHeartbeats 4000000 in
def wlL (inv : wlC → wlX → wlX → Nat → Prop) : LoopS where
  C := wlC
  X := wlX
  st := wlSt
  un := wlUn
  ok := by
    intro s c x h
    unfold wlUn at h
    split at h
    · simp only [Bool.cond_eq_ite] at h
      split at h
      · rename_i hg
        simp only [Bool.and_eq_true, Nat.beq_eq] at hg
        obtain ⟨⟨⟨⟨⟨⟨⟨⟨⟨⟨rfl, rfl⟩, rfl⟩, rfl⟩, rfl⟩, rfl⟩, rfl⟩, rfl⟩, rfl⟩, rfl⟩, rfl⟩ := hg
        cases h
        rfl
      · cases h
    · cases h
  inv := inv

def po_vc_1 (p : List UInt8) (I : poC → poX → poX → Nat → Prop) (K : V → List Bk → Prop) (x3 : (poL I).X) (m4 : Nat) : Prop :=
  (
      need (andB (leI 0 x3.5) (leI x3.5 (lenS p))) (
      need (andB (leI 0 x3.4) (leI x3.4 x3.5)) (
      need (headOkP 1 x3.3) (
      br (leN (x3.1 + 1) x3.2) (
        ((poC.mk p : (poL I).C) = poC.mk p) ∧ (
        ∃ m'5 : Nat, (((m'5 : Nat) < m4)) ∧ (
        I (poC.mk p) (poX.mk 0 0 [] 0 0) (poX.mk (x3.1 + 1) x3.2 (List.take (0 + x3.1) x3.3 ++ [[V.str (cutS p x3.4 x3.5)]] ++ List.drop (0 + x3.1 + 1) x3.3) (addI IntKind.i64 x3.5 1) (addI IntKind.i64 x3.5 1)) m'5))) (
        need (eqN (0 + x3.1) x3.3.length) (
        need (leN ((x3.1 + 1) * 16) 140737488355328) (
        ((poC.mk p : (poL I).C) = poC.mk p) ∧ (
        ∃ m'5 : Nat, (((m'5 : Nat) < m4)) ∧ (
        I (poC.mk p) (poX.mk 0 0 [] 0 0) (poX.mk (x3.1 + 1) (x3.1 + 1) (List.drop 0 x3.3 ++ [[V.str (cutS p x3.4 x3.5)]]) (addI IntKind.i64 x3.5 1) (addI IntKind.i64 x3.5 1)) m'5)))))))))
theorem po_vc (p : List UInt8) (I : poC → poX → poX → Nat → Prop) (K : V → List Bk → Prop) : vcF Try.prog cfgN (ctOf []) (lpOf [(4, poL I)]) 24 [.str p] [] K = (
  (∃ m3 : Nat, (((m3 : Nat) < 18446744073709551616)) ∧ (
  I (poC.mk p) (poX.mk 0 0 [] 0 0) (poX.mk 0 0 [] 0 0) m3)) ∧ (
  ∀ x3 : (poL I).X, ∀ m4 : Nat, (I (poC.mk p) (poX.mk 0 0 [] 0 0) x3 m4) → (
  br (leI x3.5 (lenS p)) (
    br (eqI x3.5 (lenS p)) (po_vc_1 p I K x3 m4) (
      need (andB (leI 0 x3.5) (ltI x3.5 (lenS p))) (
      br (eqI (atS p x3.5) 47) (po_vc_1 p I K x3 m4) (
        ((poC.mk p : (poL I).C) = poC.mk p) ∧ (
        ∃ m'5 : Nat, (((m'5 : Nat) < m4)) ∧ (
        I (poC.mk p) (poX.mk 0 0 [] 0 0) (poX.mk x3.1 x3.2 x3.3 x3.4 (addI IntKind.i64 x3.5 1)) m'5)))))) (
    K (V.lst (List.take x3.1 (List.drop 0 x3.3))) [])))) := by kernel_rfl

theorem lwa_vc (next : Int) (xs : List (List V)) (s : Int) (I : wlC → wlX → wlX → Nat → Prop) (K : V → List Bk → Prop) : vcF Try.prog cfgN (ctOf [(15, smallCon), (11, okCon), (17, rightCon), (23, pathCon), (21, nodeCon), (24, partsCon), (25, findCon)]) (lpOf [(10, wlL I)]) 7 [.agg [.int .i64 next, .lst xs], .int .i64 s] [] K = (
  ∃ l5 : List Node, ((xs : List (List V)) = nodeV l5) ∧ (
  (shortL l5) ∧ (
  br (notB (smallT l5)) (
    K (V.bool true) []) (
    ∃ l6 : List Node, ((xs : List (List V)) = nodeV l6) ∧ (
    (fitL l6) ∧ (
    br (notB (rightT next l6)) (
      K (V.bool true) []) (
      ∃ l7 : List Node, ((xs : List (List V)) = nodeV l7) ∧ (
      (goodT next l7) ∧ (
      br (notB (eqI (pathF l7 s).2 0)) (
        ∃ l8 : List Node, ((xs : List (List V)) = nodeV l8) ∧ (
        (((l8.length : Nat) ≤ 100000)) ∧ (
        br (notB (hasB l8 s)) (
          K (V.bool true) []) (
          K (V.bool false) [])))) (
        ((((pathF l7 s).1.length : Nat) ≤ 1000000)) ∧ (
        ∀ l8 : List (List UInt8), (isParts l8 (pathF l7 s).1) → (
        (∃ m9 : Nat, (((m9 : Nat) < 18446744073709551616)) ∧ (
        I (wlC.mk s next xs (rowsS l8) (lenL (rowsS l8))) (wlX.mk 1 0) (wlX.mk 1 0) m9)) ∧ (
        ∀ x9 : (wlL I).X, ∀ m10 : Nat, (I (wlC.mk s next xs (rowsS l8) (lenL (rowsS l8))) (wlX.mk 1 0) x9 m10) → (
        br (ltI x9.2 (lenL (rowsS l8))) (
          need (andB (leI 0 x9.2) (ltI x9.2 (lenL (rowsS l8)))) (
          need (okRow (rowsS l8) x9.2.toNat 1) (
          ∃ s11 : List UInt8, ((sub (rowAt (rowsS l8) x9.2) 0 1 : Option (List V)) = some [V.str s11]) ∧ (
          br (eqS s11 []) (
            ((wlC.mk s next xs (rowsS l8) (lenL (rowsS l8)) : (wlL I).C) = wlC.mk s next xs (rowsS l8) (lenL (rowsS l8))) ∧ (
            ∃ m'12 : Nat, (((m'12 : Nat) < m10)) ∧ (
            I (wlC.mk s next xs (rowsS l8) (lenL (rowsS l8))) (wlX.mk 1 0) (wlX.mk x9.1 (addI IntKind.i64 x9.2 1)) m'12))) (
            need (andB (leI 0 x9.2) (ltI x9.2 (lenL (rowsS l8)))) (
            need (okRow (rowsS l8) x9.2.toNat 1) (
            ∃ s12 : List UInt8, ((sub (rowAt (rowsS l8) x9.2) 0 1 : Option (List V)) = some [V.str s12]) ∧ (
            ∃ l13 : List Node, ((xs : List (List V)) = nodeV l13) ∧ (
            (goodT next l13) ∧ (
            br (notB (eqI (findF l13 x9.a s12).2 0)) (
              K (V.bool false) []) (
              ((wlC.mk s next xs (rowsS l8) (lenL (rowsS l8)) : (wlL I).C) = wlC.mk s next xs (rowsS l8) (lenL (rowsS l8))) ∧ (
              ∃ m'14 : Nat, (((m'14 : Nat) < m10)) ∧ (
              I (wlC.mk s next xs (rowsS l8) (lenL (rowsS l8))) (wlX.mk 1 0) (wlX.mk (findF l13 x9.a s12).1 (addI IntKind.i64 x9.2 1)) m'14))))))))))))) (
          br (eqI x9.1 s) (
            K (V.bool true) []) (
            K (V.bool false) [])))))))))))))))) := by kernel_rfl

end Go.Proofs.Ytepehbbagbfmcaa
namespace Go.Proofs.Ytepehbbagbfmcaa
open Go.RowKit
set_option maxRecDepth 100000
set_option linter.unusedVariables false
set_option linter.unusedSimpArgs false
def headA (a : List UInt8) : List (List UInt8) → List (List UInt8)
  | h :: t => (a ++ h) :: t
  | [] => [a]
theorem split_cons (p : List UInt8) : ∃ a r, splitS p = a :: r := by
  cases p with
  | nil => exact ⟨[], [], rfl⟩
  | cons c t =>
    unfold splitS
    split
    · exact ⟨_, _, rfl⟩
    · split
      · exact ⟨_, _, rfl⟩
      · exact ⟨_, _, rfl⟩
theorem split_slash (t : List UInt8) : splitS (47 :: t) = [] :: splitS t := by
  rw [splitS, if_pos rfl]
theorem split_other {c : UInt8} {t : List UInt8} (h : c ≠ 47) : splitS (c :: t) = headA [c] (splitS t) := by
  obtain ⟨a, r, e⟩ := split_cons t
  rw [splitS, if_neg h, e]
  rfl
theorem headA_nil {p : List UInt8} : headA [] (splitS p) = splitS p := by
  obtain ⟨a, r, e⟩ := split_cons p
  rw [e]; rfl
theorem headA_app {a b : List UInt8} {s : List (List UInt8)} : headA a (headA b s) = headA (a ++ b) s := by
  cases s <;> simp [headA]
def poP (p : List UInt8) (k w : Nat) (os : List (List UInt8)) : Prop :=
  (k ≤ p.length ∧ w ≤ k ∧ os ++ headA ((p.drop w).take (k - w)) (splitS (p.drop k)) = splitS p) ∨ (k = p.length + 1 ∧ os = splitS p)
theorem po_cut {p : List UInt8} {k w : Nat} {os : List (List UInt8)} (h : poP p k w os) (hk : k ≤ p.length) (hc : ∀ q : k < p.length, p[k] = 47) : poP p (k + 1) (k + 1) (os ++ [(p.drop w).take (k - w)]) := by
  rcases h with ⟨_, hw, e⟩ | ⟨q, _⟩
  · rcases Nat.lt_or_ge k p.length with hlt | hge
    · refine .inl ⟨by omega, Nat.le_refl _, ?_⟩
      rw [List.drop_eq_getElem_cons hlt, hc hlt, split_slash] at e
      rw [Nat.sub_self, List.take_zero, headA_nil, ← e]
      simp [headA]
    · have : k = p.length := by omega
      subst this
      refine .inr ⟨rfl, ?_⟩
      rw [List.drop_length] at e
      rw [← e]
      simp [splitS, headA]
  · omega
theorem po_next {p : List UInt8} {k w : Nat} {os : List (List UInt8)} (h : poP p k w os) (hk : k < p.length) (hc : p[k] ≠ 47) : poP p (k + 1) w os := by
  rcases h with ⟨_, hw, e⟩ | ⟨q, _⟩
  · refine .inl ⟨by omega, by omega, ?_⟩
    rw [List.drop_eq_getElem_cons hk, split_other hc, headA_app] at e
    rw [← e]
    congr 2
    rw [show k + 1 - w = (k - w) + 1 by omega, List.take_succ_eq_append_getElem (by rw [List.length_drop]; omega)]
    congr 2
    simp [show w + (k - w) = k by omega]
  · omega
theorem po_con {n : Nat} (hn : 1 ≤ n) : ConOk (evalF Try.prog cfgN n) 24 partsCon := by
  intro vs bs K h
  unfold partsCon at h
  split at h
  · rename_i p
    obtain ⟨hb, hK⟩ := h
    refine run_of (lp := lpOf [(4, poL fun _ _ x m => ∃ (k w : Nat) (os : List (List UInt8)), x.i = (k : Int) ∧ x.w = (w : Int) ∧ w ≤ k ∧ k + m = p.length + 1 ∧ x.ys = rowsS os ∧ x.n = os.length ∧ x.m = os.length ∧ os.length ≤ k ∧ poP p k w os)]) (by omega) (fun k hk => noCt_ok _) ?_
    rw [po_vc]
    refine ⟨⟨p.length + 1, by omega, 0, 0, [], rfl, rfl, Nat.le_refl _, by omega, rfl, rfl, rfl, by simp, .inl ⟨by omega, Nat.le_refl _, ?_⟩⟩, ?_⟩
    · rw [Nat.sub_self, List.take_zero, headA_nil]; rfl
    rintro ⟨a, b, ys, w, i⟩ m ⟨k, w, os, hi, hw, hwk, hk, e1, e2, e3, hos, hp⟩
    dsimp only at hi hw e1 e2 e3 ⊢
    subst hi hw e1 e2 e3
    rw [br_iff]
    refine ⟨fun hlt => ?_, fun hge => ?_⟩
    · have hlt : k ≤ p.length := by simp only [br_iff, need_iff, andB_t, andB_f, orB_t, orB_f, notB_t, notB_f, leI_t, leI_f, ltI_t, ltI_f, eqI_t, eqI_f, leN_t, leN_f, eqN_t, eqN_f, eqS_t, eqS_f, eqB_t, eqB_f, catOk_t, leC_t, lenS] at hlt; omega
      have step : addI .i64 (k : Int) 1 = ((k + 1 : Nat) : Int) := by rw [addI_i64 (by omega) (by omega)]; omega
      have cut : (∀ q : k < p.length, p[k] = 47) → po_vc_1 p (fun _ _ x m => ∃ (k w : Nat) (os : List (List UInt8)), x.i = (k : Int) ∧ x.w = (w : Int) ∧ w ≤ k ∧ k + m = p.length + 1 ∧ x.ys = rowsS os ∧ x.n = os.length ∧ x.m = os.length ∧ os.length ≤ k ∧ poP p k w os) K ⟨os.length, os.length, rowsS os, (w : Int), (k : Int)⟩ m := by
        intro hc
        unfold po_vc_1
        dsimp only
        rw [step]
        refine need_iff.2 ⟨by simp only [br_iff, need_iff, andB_t, andB_f, orB_t, orB_f, notB_t, notB_f, leI_t, leI_f, ltI_t, ltI_f, eqI_t, eqI_f, leN_t, leN_f, eqN_t, eqN_f, eqS_t, eqS_f, eqB_t, eqB_f, catOk_t, leC_t, lenS]; omega, need_iff.2 ⟨by simp only [br_iff, need_iff, andB_t, andB_f, orB_t, orB_f, notB_t, notB_f, leI_t, leI_f, ltI_t, ltI_f, eqI_t, eqI_f, leN_t, leN_f, eqN_t, eqN_f, eqS_t, eqS_f, eqB_t, eqB_f, catOk_t, leC_t]; omega, need_iff.2 ⟨headOkP1 (rowsS_one os), app_br rfl (rowsS_len os) (by omega) ⟨by trivial, m - 1, by omega, k + 1, k + 1, os ++ [(p.drop w).take (k - w)], rfl, rfl, Nat.le_refl _, by omega, ?_, by simp, by simp, by simp; omega, po_cut hp hlt hc⟩⟩⟩⟩
        rw [List.drop_zero, rowsS_app]
        rfl
      refine br_iff.2 ⟨fun g => cut fun q => ?_, fun g => need_iff.2 ⟨?_, br_iff.2 ⟨fun g2 => cut fun q => ?_, fun g2 => ⟨by trivial, m - 1, by omega, k + 1, w, os, step, rfl, by omega, by omega, rfl, rfl, rfl, by omega, ?_⟩⟩⟩⟩
      · simp only [br_iff, need_iff, andB_t, andB_f, orB_t, orB_f, notB_t, notB_f, leI_t, leI_f, ltI_t, ltI_f, eqI_t, eqI_f, leN_t, leN_f, eqN_t, eqN_f, eqS_t, eqS_f, eqB_t, eqB_f, catOk_t, leC_t, lenS] at g; omega
      · simp only [br_iff, need_iff, andB_t, andB_f, orB_t, orB_f, notB_t, notB_f, leI_t, leI_f, ltI_t, ltI_f, eqI_t, eqI_f, leN_t, leN_f, eqN_t, eqN_f, eqS_t, eqS_f, eqB_t, eqB_f, catOk_t, leC_t, lenS] at g ⊢; omega
      · rw [atS_at q] at g2
        simp only [br_iff, need_iff, andB_t, andB_f, orB_t, orB_f, notB_t, notB_f, leI_t, leI_f, ltI_t, ltI_f, eqI_t, eqI_f, leN_t, leN_f, eqN_t, eqN_f, eqS_t, eqS_f, eqB_t, eqB_f, catOk_t, leC_t] at g2
        apply UInt8.toNat_inj.1
        show p[k].toNat = 47
        omega
      · have q : k < p.length := by simp only [br_iff, need_iff, andB_t, andB_f, orB_t, orB_f, notB_t, notB_f, leI_t, leI_f, ltI_t, ltI_f, eqI_t, eqI_f, leN_t, leN_f, eqN_t, eqN_f, eqS_t, eqS_f, eqB_t, eqB_f, catOk_t, leC_t, lenS] at g; omega
        rw [atS_at q] at g2
        simp only [br_iff, need_iff, andB_t, andB_f, orB_t, orB_f, notB_t, notB_f, leI_t, leI_f, ltI_t, ltI_f, eqI_t, eqI_f, leN_t, leN_f, eqN_t, eqN_f, eqS_t, eqS_f, eqB_t, eqB_f, catOk_t, leC_t] at g2
        exact po_next hp q fun w => by rw [w] at g2; exact g2 rfl
    · have hk2 : p.length < k := by simp only [br_iff, need_iff, andB_t, andB_f, orB_t, orB_f, notB_t, notB_f, leI_t, leI_f, ltI_t, ltI_f, eqI_t, eqI_f, leN_t, leN_f, eqN_t, eqN_f, eqS_t, eqS_f, eqB_t, eqB_f, catOk_t, leC_t, lenS] at hge; omega
      rcases hp with ⟨q, _⟩ | ⟨_, q⟩
      · omega
      · rw [List.drop_zero, List.take_of_length_le (by rw [rowsS_len]; omega)]
        exact hK _ q
  · exact h.elim
-- the path's names
def namesG (l : List Node) : Nat → Node → List (List UInt8) → List (List UInt8)
  | 0, _, ns => ns
  | f + 1, x, ns => if x.id = 1 then ns else namesG l f (nodeF l x.par) (x.name :: ns)
def joinS (ns : List (List UInt8)) : List UInt8 := (ns.map (47 :: ·)).flatten
theorem join_cons (a : List UInt8) (t : List (List UInt8)) : joinS (a :: t) = 47 :: a ++ joinS t := by simp [joinS]
theorem path_join (l : List Node) : ∀ (f : Nat) (x : Node) (ns : List (List UInt8)), pathG l f x (joinS ns) = joinS (namesG l f x ns)
  | 0, _, _ => rfl
  | f + 1, x, ns => by
    show (if x.id = 1 then joinS ns else pathG l f (nodeF l x.par) (47 :: x.name ++ joinS ns)) = joinS (if x.id = 1 then ns else namesG l f (nodeF l x.par) (x.name :: ns))
    by_cases h : x.id = 1
    · rw [if_pos h, if_pos h]
    · rw [if_neg h, if_neg h, ← join_cons, path_join l f]
def plainN (a : List UInt8) : Prop := a ≠ [] ∧ ∀ c ∈ a, c ≠ 47
theorem split_plain {a q : List UInt8} (h : ∀ c ∈ a, c ≠ 47) : splitS (a ++ q) = headA a (splitS q) := by
  induction a with
  | nil => exact headA_nil.symm
  | cons c t ih => 
    rw [List.cons_append, split_other (h c (by simp)), ih fun d hd => h d (by simp [hd]), headA_app]
    rfl
theorem split_join : ∀ {ns : List (List UInt8)}, (∀ a ∈ ns, plainN a) → splitS (joinS ns) = [] :: ns
  | [], _ => rfl
  | a :: t, h => by
    rw [join_cons, List.cons_append, split_slash, split_plain (h a (by simp)).2, split_join fun b hb => h b (by simp [hb])]
    simp [headA]
theorem name_plain {n : Int} {l : List Node} (h : goodT n l) {j : Nat} {x : Node} (gx : l[j]? = some x) (hx : x.id ≠ 1) : plainN x.name := by
  have hj : 0 < j := by
    rcases Nat.eq_zero_or_pos j with q | q
    · exact absurd ((good_head h gx).2 q) hx
    · exact q
  have := ((h.2.2.2 j x gx).2.2.2 hj).1
  simp only [nameB, Bool.and_eq_true, decide_eq_true_eq, List.all_eq_true] at this
  refine ⟨this.1.1, fun c hc q => ?_⟩
  have hc := this.2 c hc
  simp only [nameC, decide_eq_true_eq] at hc
  rw [q] at hc
  exact hc.2.2 rfl
theorem names_plain {n : Int} {l : List Node} (h : goodT n l) : ∀ (f j : Nat) (x : Node) (ns : List (List UInt8)), l[j]? = some x → (∀ a ∈ ns, plainN a) → ∀ a ∈ namesG l f x ns, plainN a
  | 0, j, x, ns, gx, hns => hns
  | f + 1, j, x, ns, gx, hns => by
    show ∀ a ∈ (if x.id = 1 then ns else namesG l f (nodeF l x.par) (x.name :: ns)), plainN a
    by_cases hx : x.id = 1
    · rw [if_pos hx]; exact hns
    · rw [if_neg hx]
      obtain ⟨p, y, hp, gy, p1, p2, p3, p4, p5⟩ := par_at h gx hx
      rw [p3]
      refine names_plain h f p y _ gy fun a ha => ?_
      rcases List.mem_cons.1 ha with q | q
      · rw [q]; exact name_plain h gx hx
      · exact hns a q
theorem path_len {n : Int} {l : List Node} (h : goodT n l) : ∀ (f j : Nat) (x : Node) (p : List UInt8), l[j]? = some x → (pathG l f x p).length ≤ p.length + 65 * f
  | 0, j, x, p, gx => by show p.length ≤ _; omega
  | f + 1, j, x, p, gx => by
    show (if x.id = 1 then p else pathG l f (nodeF l x.par) (47 :: x.name ++ p)).length ≤ _
    by_cases hx : x.id = 1
    · rw [if_pos hx]; omega
    · rw [if_neg hx]
      obtain ⟨k, y, hk, gy, e1, e2, e3, e4, e5, e6⟩ := good_par h gx hx
      rw [e3]
      have := path_len h f k y (47 :: x.name ++ p) gy
      simp only [List.length_append, List.length_cons] at this
      omega
/-- Finding the names one after the other leads to a node. -/
def goesTo (l : List Node) : Int → List (List UInt8) → Int → Prop
  | a, [], s => a = s
  | a, m :: t, s => if m = [] then goesTo l a t s else (findF l a m).2 = 0 ∧ goesTo l (findF l a m).1 t s
theorem find_kid {n : Int} {l : List Node} (h : goodT n l) {j : Nat} {x : Node} (gx : l[j]? = some x) (hx : x.id ≠ 1) : findF l x.par x.name = (x.id, 0) := by
  have hj : 0 < j := by
    rcases Nat.eq_zero_or_pos j with q | q
    · exact absurd ((good_head h gx).2 q) hx
    · exact q
  obtain ⟨o1, o2, o3, o4⟩ := h.2.2.2 j x gx
  obtain ⟨p, y, hp, gy, p1, p2, p3, p4, p5⟩ := par_at h gx hx
  have hw : withinF l x.par = 0 := by unfold withinF; rw [if_pos p4, p3, if_pos p5]
  have hdd : x.name ≠ [46, 46] := by
    have := (o4 hj).1
    simp only [nameB, Bool.and_eq_true, decide_eq_true_eq] at this
    exact this.1.2.2.1
  have hf : l.find? (chP x.par x.name) = some x := by
    refine find_at gx (by rw [chP_t]; exact ⟨rfl, hx, rfl⟩) fun k g hk gg => ?_
    rw [chP_f]
    intro q
    have hk0 : 0 < k := by
      rcases Nat.eq_zero_or_pos k with w | w
      · exact absurd ((good_head h gg).2 w) q.2.1
      · exact w
    exact (o4 hj).2.2.1 k g hk0 hk gg ⟨q.1, q.2.2⟩
  unfold findF
  rw [hw, if_neg (by decide), if_neg hdd, hf]
theorem goes_names {n : Int} {l : List Node} (h : goodT n l) {s : Int} : ∀ (f j : Nat) (x : Node) (ns : List (List UInt8)), l[j]? = some x → j < f → goesTo l x.id ns s → goesTo l 1 (namesG l f x ns) s
  | 0, j, x, ns, _, hj, _ => by omega
  | f + 1, j, x, ns, gx, hj, hg => by
    show goesTo l 1 (if x.id = 1 then ns else namesG l f (nodeF l x.par) (x.name :: ns)) s
    by_cases hx : x.id = 1
    · rw [if_pos hx]; rw [hx] at hg; exact hg
    · rw [if_neg hx]
      obtain ⟨p, y, hp, gy, p1, p2, p3, p4, p5⟩ := par_at h gx hx
      rw [p3]
      refine goes_names h f p y _ gy (by omega) ?_
      show if x.name = [] then goesTo l y.id ns s else (findF l y.id x.name).2 = 0 ∧ goesTo l (findF l y.id x.name).1 ns s
      rw [if_neg (name_plain h gx hx).1, p1, find_kid h gx hx]
      exact ⟨rfl, hg⟩
theorem path_goes {n : Int} {l : List Node} (h : goodT n l) {s : Int} (hs : hasB l s = true) : goesTo l 1 (splitS (pathF l s).1) s ∧ (pathF l s).1.length ≤ 1000000 := by
  obtain ⟨k, x, gx, ei, en, hlt⟩ := has_at hs
  unfold pathF
  rw [if_pos hs, en]
  dsimp only
  by_cases q : s = 1
  · rw [if_pos q, q]
    exact ⟨by show (if ([] : List UInt8) = [] then (if ([] : List UInt8) = [] then (1 : Int) = 1 else _) else _); rw [if_pos rfl, if_pos rfl], by simp⟩
  · rw [if_neg q]
    have hl := h.2.1
    constructor
    · unfold pathOf
      rw [show ([] : List UInt8) = joinS [] from rfl, path_join, split_join (names_plain h _ k x [] gx (by simp))]
      show if ([] : List UInt8) = [] then goesTo l 1 (namesG l l.length x []) s else _
      rw [if_pos rfl]
      exact goes_names h _ k x [] gx hlt ei
    · have := path_len h l.length k x [] gx
      unfold pathOf
      simp only [List.length_nil] at this
      omega
theorem goes_one {l : List Node} {a s : Int} {rs : List (List UInt8)} {k : Nat} (hk : k < rs.length) (h : goesTo l a (rs.drop k) s) : (rs[k] = [] → goesTo l a (rs.drop (k + 1)) s) ∧ (rs[k] ≠ [] → (findF l a rs[k]).2 = 0 ∧ goesTo l (findF l a rs[k]).1 (rs.drop (k + 1)) s) := by
  rw [List.drop_eq_getElem_cons hk] at h
  have h : if rs[k] = [] then goesTo l a (rs.drop (k + 1)) s else (findF l a rs[k]).2 = 0 ∧ goesTo l (findF l a rs[k]).1 (rs.drop (k + 1)) s := h
  exact ⟨fun q => by rw [if_pos q] at h; exact h, fun q => by rw [if_neg q] at h; exact h⟩
theorem split_len : ∀ p : List UInt8, (splitS p).length ≤ p.length + 1
  | [] => by simp [splitS]
  | c :: t => by
    have := split_len t
    by_cases h : c = 47
    · rw [h, split_slash]; simp; omega
    · rw [split_other h]
      obtain ⟨a, r, e⟩ := split_cons t
      rw [e] at this ⊢
      simp [headA] at this ⊢
      omega
theorem walks_says {n s : Int} {l : List Node} (hs : shortL l) (hf : fitL l) : Says 7 [.agg [.int .i64 n, .lst (nodeV l)], .int .i64 s] := by
  refine run_of (lp := lpOf [(10, wlL fun _ _ x m => ∃ k : Nat, x.i = (k : Int) ∧ k + m = (splitS (pathF l s).1).length ∧ goesTo l x.a ((splitS (pathF l s).1).drop k) s)]) (ct := ctOf [(15, smallCon), (11, okCon), (17, rightCon), (23, pathCon), (21, nodeCon), (24, partsCon), (25, findCon)]) (by omega)
    (fun k hk => ctOf_ok (ctOf_cons (small_con (by omega)) (ctOf_cons (ok_con (by omega)) (ctOf_cons (rr_con (by omega)) (ctOf_cons (pa_con (by omega)) (ctOf_cons (rno_con (by omega)) (ctOf_cons (po_con (by omega)) (ctOf_cons (fd_con (by omega)) (ctOf_nil _))))))))) ?_
  rw [lwa_vc]
  have tt : (V.bool true = V.bool true ∧ ([] : List Bk) = []) := ⟨rfl, rfl⟩
  refine ⟨l, rfl, hs, br_iff.2 ⟨fun _ => tt, fun _ => ⟨l, rfl, hf, br_iff.2 ⟨fun _ => tt, fun g3 => ?_⟩⟩⟩⟩
  have hg : goodT n l := by simpa [notB, rightT_t] using g3
  have hb : l.length ≤ 100000 := by have := hg.2.1; omega
  refine ⟨l, rfl, hg, br_iff.2 ⟨fun g => ⟨l, rfl, hb, br_iff.2 ⟨fun _ => tt, fun g2 => ?_⟩⟩, fun g => ?_⟩⟩
  · have : hasB l s = true := by simpa [notB] using g2
    unfold pathF at g
    rw [if_pos this] at g
    simp [notB, eqI] at g
  have hh : hasB l s = true := by
    cases q : hasB l s with
    | true => rfl
    | false =>
      unfold pathF at g
      rw [if_neg (by simp [q])] at g
      simp [notB, eqI] at g
  obtain ⟨w1, w2⟩ := path_goes hg hh
  have w3 := split_len (pathF l s).1
  refine ⟨w2, fun rs e => ?_⟩
  unfold isParts at e
  subst e
  generalize splitS (pathF l s).1 = rs at w1 w3 ⊢
  have hrl : lenL (rowsS rs) = (rs.length : Int) := by simp [lenL, rowsS_len]
  simp only [hrl]
  refine ⟨⟨rs.length, by omega, 0, rfl, by omega, w1⟩, ?_⟩
  rintro ⟨a, i⟩ m ⟨k, hi, hk, hp⟩
  dsimp only at hi hp ⊢
  subst hi
  rw [br_iff]
  refine ⟨fun hlt => ?_, fun hge => ?_⟩
  · have hlt : k < rs.length := by simp only [br_iff, need_iff, andB_t, andB_f, orB_t, orB_f, notB_t, notB_f, leI_t, leI_f, ltI_t, ltI_f, eqI_t, eqI_f, leN_t, leN_f, eqN_t, eqN_f, eqS_t, eqS_f, eqB_t, eqB_f, catOk_t, leC_t] at hlt; omega
    have step : addI .i64 (k : Int) 1 = ((k + 1 : Nat) : Int) := by rw [addI_i64 (by omega) (by omega)]; omega
    obtain ⟨r1, r2⟩ := goes_one hlt hp
    refine need_iff.2 ⟨by simp only [br_iff, need_iff, andB_t, andB_f, orB_t, orB_f, notB_t, notB_f, leI_t, leI_f, ltI_t, ltI_f, eqI_t, eqI_f, leN_t, leN_f, eqN_t, eqN_f, eqS_t, eqS_f, eqB_t, eqB_f, catOk_t, leC_t]; omega, need_iff.2 ⟨rowsS_ok hlt, rs[k], rowsS_at hlt, br_iff.2 ⟨fun g => ⟨by trivial, m - 1, by omega, k + 1, step, by omega, ?_⟩, fun g => need_iff.2 ⟨by simp only [br_iff, need_iff, andB_t, andB_f, orB_t, orB_f, notB_t, notB_f, leI_t, leI_f, ltI_t, ltI_f, eqI_t, eqI_f, leN_t, leN_f, eqN_t, eqN_f, eqS_t, eqS_f, eqB_t, eqB_f, catOk_t, leC_t]; omega, need_iff.2 ⟨rowsS_ok hlt, rs[k], rowsS_at hlt, l, rfl, hg, ?_⟩⟩⟩⟩⟩
    · simp only [br_iff, need_iff, andB_t, andB_f, orB_t, orB_f, notB_t, notB_f, leI_t, leI_f, ltI_t, ltI_f, eqI_t, eqI_f, leN_t, leN_f, eqN_t, eqN_f, eqS_t, eqS_f, eqB_t, eqB_f, catOk_t, leC_t] at g
      exact r1 g
    · simp only [br_iff, need_iff, andB_t, andB_f, orB_t, orB_f, notB_t, notB_f, leI_t, leI_f, ltI_t, ltI_f, eqI_t, eqI_f, leN_t, leN_f, eqN_t, eqN_f, eqS_t, eqS_f, eqB_t, eqB_f, catOk_t, leC_t] at g
      obtain ⟨f1, f2⟩ := r2 g
      exact br_iff.2 ⟨fun g2 => by simp only [br_iff, need_iff, andB_t, andB_f, orB_t, orB_f, notB_t, notB_f, leI_t, leI_f, ltI_t, ltI_f, eqI_t, eqI_f, leN_t, leN_f, eqN_t, eqN_f, eqS_t, eqS_f, eqB_t, eqB_f, catOk_t, leC_t] at g2; exact absurd f1 g2, fun _ => ⟨by trivial, m - 1, by omega, k + 1, step, by omega, f2⟩⟩
  · have hk2 : k = rs.length := by simp only [br_iff, need_iff, andB_t, andB_f, orB_t, orB_f, notB_t, notB_f, leI_t, leI_f, ltI_t, ltI_f, eqI_t, eqI_f, leN_t, leN_f, eqN_t, eqN_f, eqS_t, eqS_f, eqB_t, eqB_f, catOk_t, leC_t] at hge; omega
    rw [hk2, List.drop_length] at hp
    have hp : a = s := hp
    refine br_iff.2 ⟨fun _ => by trivial, fun g => ?_⟩
    simp only [br_iff, need_iff, andB_t, andB_f, orB_t, orB_f, notB_t, notB_f, leI_t, leI_f, ltI_t, ltI_f, eqI_t, eqI_f, leN_t, leN_f, eqN_t, eqN_f, eqS_t, eqS_f, eqB_t, eqB_f, catOk_t, leC_t] at g
    exact absurd hp g
def walksSh : List Sh := [treeSh, .int .i64]
theorem walks_fits {us : List V} (h : FitsAll walksSh us) : Says 7 us := by
  obtain ⟨v0, r0, rfl, h0, v1, r1, rfl, h1, rfl⟩ := h
  obtain ⟨n, l, rfl, hn, hs, hf, _⟩ := tree_fits h0
  obtain ⟨s, e1, _, _⟩ := h1
  cases e1
  exact walks_says hs hf
end Go.Proofs.Ytepehbbagbfmcaa
