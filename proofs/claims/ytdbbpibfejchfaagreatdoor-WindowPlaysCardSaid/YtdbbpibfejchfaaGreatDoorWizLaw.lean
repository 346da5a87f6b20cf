/- Windows: conditions of the statements on calls. -/
import Derived.Test.YtdbbpibfejchfaaGreatDoorWizCond
import Derived.Test.YtdbbpibfejchfaaGreatDoorWizCall
namespace Go.Proofs.YtdbbpibfejchfaaGreatDoor
open Go.RowKit
set_option maxRecDepth 100000
set_option linter.unusedVariables false
set_option linter.unusedSimpArgs false
theorem lc_vc (n f : Int) (xs : List (List V)) (k a m o c : Int) (t : List UInt8) (K : V → List Bk → Prop) : vcF Tryz.prog cfgN (ctOf [(5, smCon), (11, rightCon), (6, rightCon), (7, okCon), (8, didCon), (9, didCon), (10, sameCon)]) (lpOf []) 3 [.agg [.int .i64 n, .int .i64 f, .lst xs], .agg [.int .i64 k, .int .i64 a, .int .i64 m, .int .i64 o, .int .i64 c, .str t]] [] K = (
  ∃ l10 : List Window, ((xs : List (List V)) = windowV l10) ∧ (
  ∀ b11 : Bool, (smT l10 b11) → (
  br (notB b11) (
    K (V.bool true) []) (
    br (ltI 70000 (lenS t)) (
      K (V.bool true) []) (
      ∃ l12 : List Window, ((xs : List (List V)) = windowV l12) ∧ (
      (smallL l12) ∧ (
      br (notB (rightW (Windows.mk n f l12))) (
        K (V.bool true) []) (
        ∃ l13 : List Window, ((xs : List (List V)) = windowV l13) ∧ (
        ((rightW (Windows.mk n f l13) : Bool) = true) ∧ (
        (((a : Int) ≤ 9223372036854775807)) ∧ (
        (((m : Int) ≤ 9223372036854775807)) ∧ (
        (((-9223372036854775808 : Int) ≤ m)) ∧ (
        (((t.length : Nat) ≤ 100000)) ∧ (
        ∃ l14 : List Window, ((xs : List (List V)) = windowV l14) ∧ (
        ((rightW (Windows.mk n f l14) : Bool) = true) ∧ (
        (((a : Int) ≤ 9223372036854775807)) ∧ (
        (((m : Int) ≤ 9223372036854775807)) ∧ (
        (((-9223372036854775808 : Int) ≤ m)) ∧ (
        (((t.length : Nat) ≤ 100000)) ∧ (
        br (decide ((didF (Windows.mk n f l13) (Op.mk k a m o c t)).snd.n = (didF (Windows.mk n f l14) (Op.mk k a m o c t)).snd.n) && (strEq (didF (Windows.mk n f l13) (Op.mk k a m o c t)).snd.2 (didF (Windows.mk n f l14) (Op.mk k a m o c t)).snd.2 && ((didF (Windows.mk n f l13) (Op.mk k a m o c t)).snd.3 == (didF (Windows.mk n f l14) (Op.mk k a m o c t)).snd.3 && (decide ((didF (Windows.mk n f l13) (Op.mk k a m o c t)).snd.err = (didF (Windows.mk n f l14) (Op.mk k a m o c t)).snd.err) && true)))) (
          ∃ l15 : List Window, ((windowV (didF (Windows.mk n f l13) (Op.mk k a m o c t)).fst.3 : List (List V)) = windowV l15) ∧ (
          ((windowV (didF (Windows.mk n f l14) (Op.mk k a m o c t)).fst.3 : List (List V)) = windowV l15) ∧ (
          (smallL l15) ∧ (
          (((didF (Windows.mk n f l13) (Op.mk k a m o c t)).fst.1 : Int) = (didF (Windows.mk n f l14) (Op.mk k a m o c t)).fst.1) ∧ (
          (((didF (Windows.mk n f l13) (Op.mk k a m o c t)).fst.2 : Int) = (didF (Windows.mk n f l14) (Op.mk k a m o c t)).fst.2) ∧ (
          ∃ l16 : List Window, ((windowV (didF (Windows.mk n f l13) (Op.mk k a m o c t)).fst.3 : List (List V)) = windowV l16) ∧ (
          (smallL l16) ∧ (
          br (rightW (Windows.mk (didF (Windows.mk n f l13) (Op.mk k a m o c t)).fst.1 (didF (Windows.mk n f l13) (Op.mk k a m o c t)).fst.2 l16)) (
            K (V.bool true) []) (
            K (V.bool false) []))))))))) (
          K (V.bool false) []))))))))))))))))))))) := by kernel_rfl

structure lppC where
  xs : List (List V)
  cnt : Int
structure lppX where
  n1 : Int
  f1 : Int
  ys : List (List V)
  n2 : Int
  f2 : Int
  zs : List (List V)
  i : Int
def lppSt (c : lppC) (x : lppX) : St := ⟨[(0, .lst c.xs), (3, .ptr 0 0 0), (4, .ptr 1 0 0), (17, .int .i64 c.cnt), (18, .int .i64 x.i)], [(0, ⟨true, true, true, [[.int .i64 x.n1, .int .i64 x.f1, .lst x.ys]], 0⟩), (1, ⟨true, true, true, [[.int .i64 x.n2, .int .i64 x.f2, .lst x.zs]], 0⟩)]⟩
set_option maxHeartbeats 4000000 in
def lppUn (s : St) : Option (lppC × lppX) :=
  match s with
  | ⟨[(q0, .lst xs), (q1, .ptr q2 q3 q4), (q5, .ptr q6 q7 q8), (q9, .int .i64 cnt), (q10, .int .i64 i)], [(q11, ⟨true, true, true, [[.int .i64 n1, .int .i64 f1, .lst ys]], q12⟩), (q13, ⟨true, true, true, [[.int .i64 n2, .int .i64 f2, .lst zs]], q14⟩)]⟩ => bif Nat.beq q0 0 && Nat.beq q1 3 && Nat.beq q2 0 && Nat.beq q3 0 && Nat.beq q4 0 && Nat.beq q5 4 && Nat.beq q6 1 && Nat.beq q7 0 && Nat.beq q8 0 && Nat.beq q9 17 && Nat.beq q10 18 && Nat.beq q11 0 && Nat.beq q12 0 && Nat.beq q13 1 && Nat.beq q14 0 then some (⟨xs, cnt⟩, ⟨n1, f1, ys, n2, f2, zs, i⟩) else none
  | _ => none
set_option maxHeartbeats 4000000 in
def lppL (inv : lppC → lppX → lppX → Nat → Prop) : LoopS where
  C := lppC
  X := lppX
  st := lppSt
  un := lppUn
  ok := by
    intro s c x h
    unfold lppUn at h
    split at h
    · simp only [Bool.cond_eq_ite] at h
      split at h
      · rename_i hg
        simp only [Bool.and_eq_true, Nat.beq_eq] at hg
        obtain ⟨⟨⟨⟨⟨⟨⟨⟨⟨⟨⟨⟨⟨⟨rfl, rfl⟩, rfl⟩, rfl⟩, rfl⟩, rfl⟩, rfl⟩, rfl⟩, rfl⟩, rfl⟩, rfl⟩, rfl⟩, rfl⟩, rfl⟩, rfl⟩ := hg
        cases h
        rfl
      · cases h
    · cases h
  inv := inv

theorem lp_vc (xs : List (List V)) (I : lppC → lppX → lppX → Nat → Prop) (K : V → List Bk → Prop) : vcF Tryz.prog cfgN (ctOf [(11, rightCon), (7, okCon), (8, didCon), (9, didCon), (10, sameCon)]) (lpOf [(5, lppL I)]) 4 [.lst xs] [] K = (
  br (ltI 60 (lenL xs)) (
    K (V.bool true) []) (
    (∃ m3 : Nat, (((m3 : Nat) < 18446744073709551616)) ∧ (
    I (lppC.mk xs (lenL xs)) (lppX.mk 1 0 [] 1 0 [] 0) (lppX.mk 1 0 [] 1 0 [] 0) m3)) ∧ (
    ∀ x3 : (lppL I).X, ∀ m4 : Nat, (I (lppC.mk xs (lenL xs)) (lppX.mk 1 0 [] 1 0 [] 0) x3 m4) → (
    br (ltI x3.7 (lenL xs)) (
      need (andB (leI 0 x3.7) (ltI x3.7 (lenL xs))) (
      need (okRow xs x3.7.toNat 6) (
      ∃ s5 : List UInt8, ((sub (rowAt xs x3.7) 5 1 : Option (List V)) = some [V.str s5]) ∧ (
      br (ltI 2000 (lenS s5)) (
        K (V.bool true) []) (
        need (andB (leI 0 x3.7) (ltI x3.7 (lenL xs))) (
        need (okRow xs x3.7.toNat 6) (
        ∃ n6 : Int, ∃ n7 : Int, ∃ n8 : Int, ∃ n9 : Int, ∃ n10 : Int, ∃ s11 : List UInt8, ((sub (rowAt xs x3.7) 0 6 : Option (List V)) = some [V.int IntKind.i64 n6, V.int IntKind.i64 n7, V.int IntKind.i64 n8, V.int IntKind.i64 n9, V.int IntKind.i64 n10, V.str s11]) ∧ (
        ∃ l12 : List Window, ((x3.3 : List (List V)) = windowV l12) ∧ (
        ((rightW (Windows.mk x3.1 x3.2 l12) : Bool) = true) ∧ (
        (((n7 : Int) ≤ 9223372036854775807)) ∧ (
        (((n8 : Int) ≤ 9223372036854775807)) ∧ (
        (((-9223372036854775808 : Int) ≤ n8)) ∧ (
        (((s11.length : Nat) ≤ 100000)) ∧ (
        need (andB (leI 0 x3.7) (ltI x3.7 (lenL xs))) (
        need (okRow xs x3.7.toNat 6) (
        ∃ n13 : Int, ∃ n14 : Int, ∃ n15 : Int, ∃ n16 : Int, ∃ n17 : Int, ∃ s18 : List UInt8, ((sub (rowAt xs x3.7) 0 6 : Option (List V)) = some [V.int IntKind.i64 n13, V.int IntKind.i64 n14, V.int IntKind.i64 n15, V.int IntKind.i64 n16, V.int IntKind.i64 n17, V.str s18]) ∧ (
        ∃ l19 : List Window, ((x3.6 : List (List V)) = windowV l19) ∧ (
        ((rightW (Windows.mk x3.4 x3.5 l19) : Bool) = true) ∧ (
        (((n14 : Int) ≤ 9223372036854775807)) ∧ (
        (((n15 : Int) ≤ 9223372036854775807)) ∧ (
        (((-9223372036854775808 : Int) ≤ n15)) ∧ (
        (((s18.length : Nat) ≤ 100000)) ∧ (
        br (!(decide ((didF (Windows.mk x3.n1 x3.f1 l12) (Op.mk n6 n7 n8 n9 n10 s11)).snd.n = (didF (Windows.mk x3.n2 x3.f2 l19) (Op.mk n13 n14 n15 n16 n17 s18)).snd.n) && (strEq (didF (Windows.mk x3.n1 x3.f1 l12) (Op.mk n6 n7 n8 n9 n10 s11)).snd.2 (didF (Windows.mk x3.n2 x3.f2 l19) (Op.mk n13 n14 n15 n16 n17 s18)).snd.2 && ((didF (Windows.mk x3.n1 x3.f1 l12) (Op.mk n6 n7 n8 n9 n10 s11)).snd.3 == (didF (Windows.mk x3.n2 x3.f2 l19) (Op.mk n13 n14 n15 n16 n17 s18)).snd.3 && (decide ((didF (Windows.mk x3.n1 x3.f1 l12) (Op.mk n6 n7 n8 n9 n10 s11)).snd.err = (didF (Windows.mk x3.n2 x3.f2 l19) (Op.mk n13 n14 n15 n16 n17 s18)).snd.err) && true))))) (
          K (V.bool false) []) (
          ((lppC.mk xs (lenL xs) : (lppL I).C) = lppC.mk xs (lenL xs)) ∧ (
          ∃ m'20 : Nat, (((m'20 : Nat) < m4)) ∧ (
          I (lppC.mk xs (lenL xs)) (lppX.mk 1 0 [] 1 0 [] 0) (lppX.mk (didF (Windows.mk x3.n1 x3.f1 l12) (Op.mk n6 n7 n8 n9 n10 s11)).fst.1 (didF (Windows.mk x3.n1 x3.f1 l12) (Op.mk n6 n7 n8 n9 n10 s11)).fst.2 (windowV (didF (Windows.mk x3.n1 x3.f1 l12) (Op.mk n6 n7 n8 n9 n10 s11)).fst.3) (didF (Windows.mk x3.n2 x3.f2 l19) (Op.mk n13 n14 n15 n16 n17 s18)).fst.1 (didF (Windows.mk x3.n2 x3.f2 l19) (Op.mk n13 n14 n15 n16 n17 s18)).fst.2 (windowV (didF (Windows.mk x3.n2 x3.f2 l19) (Op.mk n13 n14 n15 n16 n17 s18)).fst.3) (addI IntKind.i64 x3.7 1)) m'20)))))))))))))))))))))))))) (
      ∃ l5 : List Window, ((x3.3 : List (List V)) = windowV l5) ∧ (
      ((x3.6 : List (List V)) = windowV l5) ∧ (
      (smallL l5) ∧ (
      ((x3.1 : Int) = x3.4) ∧ (
      ((x3.2 : Int) = x3.5) ∧ (
      ∃ l6 : List Window, ((x3.3 : List (List V)) = windowV l6) ∧ (
      (smallL l6) ∧ (
      br (rightW (Windows.mk x3.1 x3.2 l6)) (
        K (V.bool true) []) (
        K (V.bool false) []))))))))))))) := by kernel_rfl

end Go.Proofs.YtdbbpibfejchfaaGreatDoor
namespace Go.Proofs.YtdbbpibfejchfaaGreatDoor
open Go.RowKit
set_option maxRecDepth 100000
set_option linter.unusedVariables false
set_option linter.unusedSimpArgs false
theorem op_bnd {o : Op} (h : o.fit) : o.id ≤ 9223372036854775807 ∧ -9223372036854775808 ≤ o.id ∧ o.mode ≤ 9223372036854775807 ∧ -9223372036854775808 ≤ o.mode := by
  obtain ⟨_, h1, h2, _⟩ := h
  have e1 : IntKind.i64.min = -9223372036854775808 := by decide
  have e2 : IntKind.i64.max = 9223372036854775807 := by decide
  omega
theorem lc_says {w : Windows} {o : Op} (ho : o.id ≤ 9223372036854775807 ∧ -9223372036854775808 ≤ o.id ∧ o.mode ≤ 9223372036854775807 ∧ -9223372036854775808 ≤ o.mode) : Says 3 [.agg w.v, .agg o.v] := by
  obtain ⟨n, f, l⟩ := w
  obtain ⟨k, a, m, off, c, t⟩ := o
  obtain ⟨ha1, ha0, hm1, hm0⟩ := ho
  dsimp only at ha1 ha0 hm1 hm0
  refine run_of (lp := lpOf [])
    (ct := ctOf [(5, smCon), (11, rightCon), (6, rightCon), (7, okCon), (8, didCon), (9, didCon), (10, sameCon)]) (by omega)
    (fun k hk => ctOf_ok (ctOf_cons (sm_con (by omega)) (ctOf_cons (wr_con (by omega)) (ctOf_cons (rr_con (by omega)) (ctOf_cons (ok_con (by omega)) (ctOf_cons (did_con (by omega)) (ctOf_cons (wnt_con (by omega)) (ctOf_cons (ss_con (by omega)) (ctOf_nil _))))))))) ?_
  refine cast (lc_vc n f (windowV l) k a m off c t fun r out => r = .bool true ∧ out = []).symm ?_
  have tt : (V.bool true = V.bool true ∧ ([] : List Bk) = []) := ⟨rfl, rfl⟩
  refine ⟨l, rfl, fun b hb => ?_⟩
  rw [br_iff]; refine ⟨fun _ => tt, fun g => ?_⟩
  have hs := hb (by simpa [notB] using g)
  have hsm : smallL l := ⟨by omega, fun x hx => by have := hs.2 x hx; omega⟩
  rw [br_iff]; refine ⟨fun _ => tt, fun g1 => ?_⟩
  have g1 : t.length ≤ 70000 := by simp only [br_iff, need_iff, andB_t, andB_f, orB_t, orB_f, notB_t, notB_f, leI_t, leI_f, ltI_t, ltI_f, eqI_t, eqI_f, leN_t, leN_f, eqN_t, eqN_f, eqS_t, eqS_f, eqB_t, eqB_f, catOk_t, leC_t, lenS] at g1; omega
  refine ⟨l, rfl, hsm, ?_⟩
  rw [br_iff]; refine ⟨fun _ => tt, fun g2 => ?_⟩
  have hRb : rightW ⟨n, f, l⟩ = true := by simpa [notB] using g2
  have hR := (rightW_iff _).1 hRb
  refine ⟨l, rfl, hRb, ha1, hm1, hm0, by omega, l, rfl, hRb, ha1, hm1, hm0, by omega, ?_⟩
  have hRd := did_right hR ⟨k, a, m, off, c, t⟩
  generalize didF ⟨n, f, l⟩ ⟨k, a, m, off, c, t⟩ = d at hRd ⊢
  obtain ⟨⟨n2, f2, l2⟩, dd⟩ := d
  dsimp only at hRd ⊢
  rw [br_iff]; refine ⟨fun _ => ?_, fun g => by simp [strEq] at g⟩
  refine ⟨l2, rfl, rfl, right_small hRd, rfl, rfl, l2, rfl, right_small hRd, ?_⟩
  rw [(rightW_iff _).2 hRd]
  exact tt
def playI (ops : List Op) (x : lppX) (m : Nat) : Prop := ∃ (k : Nat) (w : Windows), RightW w ∧ x = ⟨w.next, w.focus, windowV w.l, w.next, w.focus, windowV w.l, (k : Int)⟩ ∧ k + m = ops.length
theorem lp_says {ops : List Op} (ho : ∀ o ∈ ops, o.fit) : Says 4 [.lst (opV ops)] := by
  refine run_of (lp := lpOf [(5, lppL fun _ _ x m => playI ops x m)])
    (ct := ctOf [(11, rightCon), (7, okCon), (8, didCon), (9, didCon), (10, sameCon)]) (by omega)
    (fun k hk => ctOf_ok (ctOf_cons (wr_con (by omega)) (ctOf_cons (ok_con (by omega)) (ctOf_cons (did_con (by omega)) (ctOf_cons (wnt_con (by omega)) (ctOf_cons (ss_con (by omega)) (ctOf_nil _))))))) ?_
  refine cast (lp_vc (opV ops) (fun _ _ x m => playI ops x m) fun r out => r = .bool true ∧ out = []).symm ?_
  have tt : True ∧ True := ⟨trivial, trivial⟩
  simp only [opV_lenL]
  rw [br_iff]; refine ⟨fun _ => tt, fun g => ?_⟩
  have g : ops.length ≤ 60 := by simp only [br_iff, need_iff, andB_t, andB_f, orB_t, orB_f, notB_t, notB_f, leI_t, leI_f, ltI_t, ltI_f, eqI_t, eqI_f, leN_t, leN_f, eqN_t, eqN_f, eqS_t, eqS_f, eqB_t, eqB_f, catOk_t, leC_t] at g; omega
  refine ⟨⟨ops.length, by omega, 0, ⟨1, 0, []⟩, (rightW_iff _).1 (by decide), rfl, by omega⟩, ?_⟩
  rintro _ m ⟨k, ⟨n, f, l⟩, hR, rfl, hk⟩
  have hRb := (rightW_iff _).2 hR
  dsimp only
  rw [br_iff]; refine ⟨fun q => ?_, fun q => ?_⟩
  · have hlt : k < ops.length := by simp only [br_iff, need_iff, andB_t, andB_f, orB_t, orB_f, notB_t, notB_f, leI_t, leI_f, ltI_t, ltI_f, eqI_t, eqI_f, leN_t, leN_f, eqN_t, eqN_f, eqS_t, eqS_f, eqB_t, eqB_f, catOk_t, leC_t] at q; omega
    have go := List.getElem?_eq_getElem hlt
    generalize ops[k] = o at go
    have hf := op_bnd (ho o (List.mem_of_getElem? go))
    have nk : andB (leI 0 (k : Int)) (ltI (k : Int) (ops.length : Int)) = true := by simp only [br_iff, need_iff, andB_t, andB_f, orB_t, orB_f, notB_t, notB_f, leI_t, leI_f, ltI_t, ltI_f, eqI_t, eqI_f, leN_t, leN_f, eqN_t, eqN_f, eqS_t, eqS_f, eqB_t, eqB_f, catOk_t, leC_t]; omega
    have ok : okRow (opV ops) (k : Int).toNat 6 = true := by simpa using opV_ok hlt
    rw [nk, need_tt, ok, need_tt]
    refine ⟨o.text, by rw [opV_row go]; rfl, ?_⟩
    rw [br_iff]; refine ⟨fun _ => tt, fun g1 => ?_⟩
    have g1 : o.text.length ≤ 2000 := by simp only [br_iff, need_iff, andB_t, andB_f, orB_t, orB_f, notB_t, notB_f, leI_t, leI_f, ltI_t, ltI_f, eqI_t, eqI_f, leN_t, leN_f, eqN_t, eqN_f, eqS_t, eqS_f, eqB_t, eqB_f, catOk_t, leC_t, lenS] at g1; omega
    rw [need_tt, need_tt]
    refine ⟨o.kind, o.id, o.mode, o.offset, o.count, o.text, by rw [opV_row go]; rfl, l, rfl, hRb, hf.1, hf.2.2.1, hf.2.2.2, by omega, ?_⟩
    rw [need_tt, need_tt]
    refine ⟨o.kind, o.id, o.mode, o.offset, o.count, o.text, by rw [opV_row go]; rfl, l, rfl, hRb, hf.1, hf.2.2.1, hf.2.2.2, by omega, ?_⟩
    have hRd := did_right hR ⟨o.kind, o.id, o.mode, o.offset, o.count, o.text⟩
    generalize didF ⟨n, f, l⟩ ⟨o.kind, o.id, o.mode, o.offset, o.count, o.text⟩ = d at hRd ⊢
    obtain ⟨⟨n2, f2, l2⟩, dd⟩ := d
    dsimp only at hRd ⊢
    rw [br_iff]; refine ⟨fun g => by simp [strEq] at g, fun _ => ?_⟩
    exact ⟨by trivial, m - 1, by omega, k + 1, ⟨n2, f2, l2⟩, hRd, by rw [addI_i64 (by omega) (by omega)]; rfl, by omega⟩
  · refine ⟨l, rfl, rfl, right_small hR, rfl, rfl, l, rfl, right_small hR, ?_⟩
    rw [hRb]
    exact tt
def winOpSh : List Sh := [windowsSh, opSh]
def winOpsSh : List Sh := [.slice 56 6 opSh]
theorem win_fits {v : V} (h : FitsA windowsSh v) : ∃ w : Windows, v = .agg w.v ∧ w.fit := by
  obtain ⟨vs, rfl, h⟩ := h
  obtain ⟨w, rfl, hf⟩ := Windows.fits h
  exact ⟨w, rfl, hf⟩
theorem wop_fits {v : V} (h : FitsA opSh v) : ∃ o : Op, v = .agg o.v ∧ o.fit := by
  obtain ⟨vs, rfl, h⟩ := h
  obtain ⟨o, rfl, hf⟩ := Op.fits h
  exact ⟨o, rfl, hf⟩
theorem ops_fits {v : V} (h : FitsA (.slice 56 6 opSh) v) : ∃ l : List Op, v = .lst (opV l) ∧ ∀ a ∈ l, a.fit := by
  obtain ⟨xs, h1, _, h2⟩ := h
  obtain ⟨l, rfl, hl⟩ := rows_of Op.v (fun a => a.fit) (fun q hq => Op.fits (h2 q hq).2)
  exact ⟨l, by simpa [opV] using h1, hl⟩
theorem calls_fits {us : List V} (h : FitsAll winOpSh us) : Says 3 us := by
  obtain ⟨v0, r0, rfl, h0, v1, r1, rfl, h1, rfl⟩ := h
  obtain ⟨w, rfl, hf⟩ := win_fits h0
  obtain ⟨o, rfl, ho⟩ := wop_fits h1
  exact lc_says (op_bnd ho)
theorem plays_fits {us : List V} (h : FitsAll winOpsSh us) : Says 4 us := by
  obtain ⟨v0, r0, rfl, h0, rfl⟩ := h
  obtain ⟨l, rfl, hl⟩ := ops_fits h0
  exact lp_says hl
end Go.Proofs.YtdbbpibfejchfaaGreatDoor
