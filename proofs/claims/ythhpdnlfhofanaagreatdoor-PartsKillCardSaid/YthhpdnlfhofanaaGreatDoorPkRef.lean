/- Paths and users by the reference: conditions. -/
import Derived.Test.YthhpdnlfhofanaaGreatDoorPkDev
namespace Go.Proofs.YthhpdnlfhofanaaGreatDoor
open Go.RowKit
set_option maxRecDepth 100000
set_option linter.unusedVariables false
set_option linter.unusedSimpArgs false
def partsP (l : List (List UInt8)) : Prop := l.length ≤ 1025 ∧ ∀ a ∈ l, a.length ≤ 1024

structure vuC where
  s : List UInt8
structure vuX where
  i : Int
def vuSt (c : vuC) (x : vuX) : St := ⟨[(0, .str c.s), (3, .int .i64 x.i)], []⟩
set_option maxHeartbeats 4000000 in
def vuUn (s : St) : Option (vuC × vuX) :=
  match s with
  | ⟨[(q0, .str s), (q1, .int .i64 i)], []⟩ => bif Nat.beq q0 0 && Nat.beq q1 3 then some (⟨s⟩, ⟨i⟩) else none
  | _ => none
set_option maxHeartbeats 4000000 in
def vuL (inv : vuC → vuX → vuX → Nat → Prop) : LoopS where
  C := vuC
  X := vuX
  st := vuSt
  un := vuUn
  ok := by
    intro s c x h
    unfold vuUn at h
    split at h
    · simp only [Bool.cond_eq_ite] at h
      split at h
      · rename_i hg
        simp only [Bool.and_eq_true, Nat.beq_eq] at hg
        obtain ⟨rfl, rfl⟩ := hg
        cases h
        rfl
      · cases h
    · cases h
  inv := inv

structure vpC where
  s : List UInt8
structure vpX where
  i : Int
def vpSt (c : vpC) (x : vpX) : St := ⟨[(0, .str c.s), (3, .int .i64 x.i)], []⟩
set_option maxHeartbeats 4000000 in
def vpUn (s : St) : Option (vpC × vpX) :=
  match s with
  | ⟨[(q0, .str s), (q1, .int .i64 i)], []⟩ => bif Nat.beq q0 0 && Nat.beq q1 3 then some (⟨s⟩, ⟨i⟩) else none
  | _ => none
set_option maxHeartbeats 4000000 in
def vpL (inv : vpC → vpX → vpX → Nat → Prop) : LoopS where
  C := vpC
  X := vpX
  st := vpSt
  un := vpUn
  ok := by
    intro s c x h
    unfold vpUn at h
    split at h
    · simp only [Bool.cond_eq_ite] at h
      split at h
      · rename_i hg
        simp only [Bool.and_eq_true, Nat.beq_eq] at hg
        obtain ⟨rfl, rfl⟩ := hg
        cases h
        rfl
      · cases h
    · cases h
  inv := inv

structure ppC where
  s : List UInt8
structure ppX where
  len : Nat
  cm : Nat
  frm : Int
  i : Int
  es : List (List V)
def ppSt (c : ppC) (x : ppX) : St := ⟨[(0, .str c.s), (3, .ref 0 0 x.len x.cm), (4, .int .i64 x.frm), (5, .int .i64 x.i)], [(0, ⟨true, false, true, x.es, 0⟩)]⟩
set_option maxHeartbeats 4000000 in
def ppUn (s : St) : Option (ppC × ppX) :=
  match s with
  | ⟨[(q0, .str s), (q1, .ref q2 q3 len cm), (q4, .int .i64 frm), (q5, .int .i64 i)], [(q6, ⟨true, false, true, es, q7⟩)]⟩ => bif Nat.beq q0 0 && Nat.beq q1 3 && Nat.beq q2 0 && Nat.beq q3 0 && Nat.beq q4 4 && Nat.beq q5 5 && Nat.beq q6 0 && Nat.beq q7 0 then some (⟨s⟩, ⟨len, cm, frm, i, es⟩) else none
  | _ => none
set_option maxHeartbeats 4000000 in
def ppL (inv : ppC → ppX → ppX → Nat → Prop) : LoopS where
  C := ppC
  X := ppX
  st := ppSt
  un := ppUn
  ok := by
    intro s c x h
    unfold ppUn at h
    split at h
    · simp only [Bool.cond_eq_ite] at h
      split at h
      · rename_i hg
        simp only [Bool.and_eq_true, Nat.beq_eq] at hg
        obtain ⟨⟨⟨⟨⟨⟨⟨rfl, rfl⟩, rfl⟩, rfl⟩, rfl⟩, rfl⟩, rfl⟩, rfl⟩ := hg
        cases h
        rfl
      · cases h
    · cases h
  inv := inv

structure buC where
  r : Bool
  xs : List (List V)
structure buX where
  t : List UInt8
  i : Int
def buSt (c : buC) (x : buX) : St := ⟨[(0, .bool c.r), (1, .lst c.xs), (5, .str x.t), (6, .int .i64 x.i)], []⟩
set_option maxHeartbeats 4000000 in
def buUn (s : St) : Option (buC × buX) :=
  match s with
  | ⟨[(q0, .bool r), (q1, .lst xs), (q2, .str t), (q3, .int .i64 i)], []⟩ => bif Nat.beq q0 0 && Nat.beq q1 1 && Nat.beq q2 5 && Nat.beq q3 6 then some (⟨r, xs⟩, ⟨t, i⟩) else none
  | _ => none
set_option maxHeartbeats 4000000 in
def buL (inv : buC → buX → buX → Nat → Prop) : LoopS where
  C := buC
  X := buX
  st := buSt
  un := buUn
  ok := by
    intro s c x h
    unfold buUn at h
    split at h
    · simp only [Bool.cond_eq_ite] at h
      split at h
      · rename_i hg
        simp only [Bool.and_eq_true, Nat.beq_eq] at hg
        obtain ⟨⟨⟨rfl, rfl⟩, rfl⟩, rfl⟩ := hg
        cases h
        rfl
      · cases h
    · cases h
  inv := inv

def vuCon : Con := fun vs bs K => match vs, bs with
  | [.str s], [] => ∀ b : Bool, K (.bool b) []
  | _, _ => False

def vpCon : Con := fun vs bs K => match vs, bs with
  | [.str s], [] => s.length ≤ 140737488355328 ∧ ∀ b : Bool, K (.bool b) []
  | _, _ => False

def ppCon : Con := fun vs bs K => match vs, bs with
  | [.str s], [] => s.length ≤ 1024 ∧ ∀ l : List (List UInt8), partsP l → K (.lst (strV l)) []
  | _, _ => False

def buCon : Con := fun vs bs K => match vs, bs with
  | [.bool r, .lst xs], [] => ∃ l : List (List UInt8), xs = strV l ∧ partsP l ∧ ∀ t : List UInt8, K (.str t) []
  | _, _ => False

def vu_vc_2 [MaxL] (s : List UInt8) (I : vuC → vuX → vuX → Nat → Prop) (K : V → List Bk → Prop) (x4 : (vuL I).X) (m5 : Nat) : Prop :=
  (
                  br (notB (eqI (atS s x4.1) 45)) (
                    br (notB (eqI (atS s x4.1) 95)) (
                      K (V.bool false) []) (
                      ((vuC.mk s : (vuL I).C) = vuC.mk s) ∧ (
                      ∃ m'6 : Nat, (((m'6 : Nat) < m5)) ∧ (
                      I (vuC.mk s) (vuX.mk 0) (vuX.mk (addI IntKind.i64 x4.1 1)) m'6)))) (
                    ((vuC.mk s : (vuL I).C) = vuC.mk s) ∧ (
                    ∃ m'6 : Nat, (((m'6 : Nat) < m5)) ∧ (
                    I (vuC.mk s) (vuX.mk 0) (vuX.mk (addI IntKind.i64 x4.1 1)) m'6))))
def vu_vc_1 [MaxL] (s : List UInt8) (I : vuC → vuX → vuX → Nat → Prop) (K : V → List Bk → Prop) (x4 : (vuL I).X) (m5 : Nat) : Prop :=
  (
            br (eqI x4.1 0) (
              K (V.bool false) []) (
              br (leI 48 (atS s x4.1)) (
                br (notB (leI (atS s x4.1) 57)) (vu_vc_2 s I K x4 m5) (
                  ((vuC.mk s : (vuL I).C) = vuC.mk s) ∧ (
                  ∃ m'6 : Nat, (((m'6 : Nat) < m5)) ∧ (
                  I (vuC.mk s) (vuX.mk 0) (vuX.mk (addI IntKind.i64 x4.1 1)) m'6)))) (vu_vc_2 s I K x4 m5)))
theorem vu_vc [MaxL] (s : List UInt8) (I : vuC → vuX → vuX → Nat → Prop) (K : V → List Bk → Prop) : vcF Tryz.prog cfgE (ctOf []) (lpOf [(4, vuL I)]) 119 [.str s] [] K = (
  br (ltI (lenS s) 1) (
    K (V.bool false) []) (
    br (ltI 32 (lenS s)) (
      K (V.bool false) []) (
      (∃ m4 : Nat, (((m4 : Nat) < 18446744073709551616)) ∧ (
      I (vuC.mk s) (vuX.mk 0) (vuX.mk 0) m4)) ∧ (
      ∀ x4 : (vuL I).X, ∀ m5 : Nat, (I (vuC.mk s) (vuX.mk 0) x4 m5) → (
      br (ltI x4.1 (lenS s)) (
        need (andB (leI 0 x4.1) (ltI x4.1 (lenS s))) (
        br (leI 97 (atS s x4.1)) (
          br (notB (leI (atS s x4.1) 122)) (vu_vc_1 s I K x4 m5) (
            ((vuC.mk s : (vuL I).C) = vuC.mk s) ∧ (
            ∃ m'6 : Nat, (((m'6 : Nat) < m5)) ∧ (
            I (vuC.mk s) (vuX.mk 0) (vuX.mk (addI IntKind.i64 x4.1 1)) m'6)))) (vu_vc_1 s I K x4 m5))) (
        K (V.bool true) [])))))) := by kernel_rfl

theorem vp_vc [MaxL] (s : List UInt8) (I : vpC → vpX → vpX → Nat → Prop) (K : V → List Bk → Prop) : vcF Tryz.prog cfgE (ctOf []) (lpOf [(2, vpL I)]) 120 [.str s] [] K = (
  (∃ m4 : Nat, (((m4 : Nat) < 18446744073709551616)) ∧ (
  I (vpC.mk s) (vpX.mk 0) (vpX.mk 0) m4)) ∧ (
  ∀ x4 : (vpL I).X, ∀ m5 : Nat, (I (vpC.mk s) (vpX.mk 0) x4 m5) → (
  br (ltI x4.1 (lenS s)) (
    need (andB (leI 0 x4.1) (ltI x4.1 (lenS s))) (
    br (ltI (atS s x4.1) 33) (
      K (V.bool false) []) (
      need (andB (leI 0 x4.1) (ltI x4.1 (lenS s))) (
      br (ltI 126 (atS s x4.1)) (
        K (V.bool false) []) (
        need (andB (leI 0 x4.1) (ltI x4.1 (lenS s))) (
        br (eqI (atS s x4.1) 47) (
          K (V.bool false) []) (
          ((vpC.mk s : (vpL I).C) = vpC.mk s) ∧ (
          ∃ m'6 : Nat, (((m'6 : Nat) < m5)) ∧ (
          I (vpC.mk s) (vpX.mk 0) (vpX.mk (addI IntKind.i64 x4.1 1)) m'6))))))))) (
    br (leI 1 (lenS s)) (
      br (leI (lenS s) 64) (
        br (notB (eqS s [46])) (
          K (V.bool (notB (eqS s [46, 46]))) []) (
          K (V.bool false) [])) (
        K (V.bool false) [])) (
      K (V.bool false) []))))) := by kernel_rfl

def pp_vc_1 [MaxL] (s : List UInt8) (I : ppC → ppX → ppX → Nat → Prop) (K : V → List Bk → Prop) (x4 : (ppL I).X) (m5 : Nat) : Prop :=
  (
      need (andB (leI 0 x4.4) (leI x4.4 (lenS s))) (
      need (andB (leI 0 x4.3) (leI x4.3 x4.4)) (
      need (headOkP 1 x4.5) (
      br (leN (x4.1 + 1) x4.2) (
        ((ppC.mk s : (ppL I).C) = ppC.mk s) ∧ (
        ∃ m'6 : Nat, (((m'6 : Nat) < m5)) ∧ (
        I (ppC.mk s) (ppX.mk 0 0 0 0 []) (ppX.mk (x4.1 + 1) x4.2 (addI IntKind.i64 x4.4 1) (addI IntKind.i64 x4.4 1) (List.take (0 + x4.1) x4.5 ++ [[V.str (cutS s x4.3 x4.4)]] ++ List.drop (0 + x4.1 + 1) x4.5)) m'6))) (
        need (eqN (0 + x4.1) x4.5.length) (
        need (leN ((x4.1 + 1) * 16) 140737488355328) (
        ((ppC.mk s : (ppL I).C) = ppC.mk s) ∧ (
        ∃ m'6 : Nat, (((m'6 : Nat) < m5)) ∧ (
        I (ppC.mk s) (ppX.mk 0 0 0 0 []) (ppX.mk (x4.1 + 1) (x4.1 + 1) (addI IntKind.i64 x4.4 1) (addI IntKind.i64 x4.4 1) (List.drop 0 x4.5 ++ [[V.str (cutS s x4.3 x4.4)]])) m'6)))))))))
theorem pp_vc [MaxL] (s : List UInt8) (I : ppC → ppX → ppX → Nat → Prop) (K : V → List Bk → Prop) : vcF Tryz.prog cfgE (ctOf []) (lpOf [(4, ppL I)]) 271 [.str s] [] K = (
  (∃ m4 : Nat, (((m4 : Nat) < 18446744073709551616)) ∧ (
  I (ppC.mk s) (ppX.mk 0 0 0 0 []) (ppX.mk 0 0 0 0 []) m4)) ∧ (
  ∀ x4 : (ppL I).X, ∀ m5 : Nat, (I (ppC.mk s) (ppX.mk 0 0 0 0 []) x4 m5) → (
  br (leI x4.4 (lenS s)) (
    br (eqI x4.4 (lenS s)) (pp_vc_1 s I K x4 m5) (
      need (andB (leI 0 x4.4) (ltI x4.4 (lenS s))) (
      br (eqI (atS s x4.4) 47) (pp_vc_1 s I K x4 m5) (
        ((ppC.mk s : (ppL I).C) = ppC.mk s) ∧ (
        ∃ m'6 : Nat, (((m'6 : Nat) < m5)) ∧ (
        I (ppC.mk s) (ppX.mk 0 0 0 0 []) (ppX.mk x4.1 x4.2 x4.3 (addI IntKind.i64 x4.4 1) x4.5) m'6)))))) (
    K (V.lst (List.take x4.1 (List.drop 0 x4.5))) [])))) := by kernel_rfl

theorem bu_vc [MaxL] (r : Bool) (xs : List (List V)) (I : buC → buX → buX → Nat → Prop) (K : V → List Bk → Prop) : vcF Tryz.prog cfgE (ctOf []) (lpOf [(3, buL I)]) 206 [.bool r, .lst xs] [] K = (
  (∃ m5 : Nat, (((m5 : Nat) < 18446744073709551616)) ∧ (
  I (buC.mk r xs) (buX.mk [] 0) (buX.mk [] 0) m5)) ∧ (
  ∀ x5 : (buL I).X, ∀ m6 : Nat, (I (buC.mk r xs) (buX.mk [] 0) x5 m6) → (
  br (ltI x5.2 (lenL xs)) (
    br (ltI 0 x5.2) (
      need (catOk x5.1 [47]) (
      need (andB (leI 0 x5.2) (ltI x5.2 (lenL xs))) (
      need (okRow xs x5.2.toNat 1) (
      ∃ s7 : List UInt8, ((sub (rowAt xs x5.2) 0 1 : Option (List V)) = some [V.str s7]) ∧ (
      need (catOk (catS x5.1 [47]) s7) (
      ((buC.mk r xs : (buL I).C) = buC.mk r xs) ∧ (
      ∃ m'8 : Nat, (((m'8 : Nat) < m6)) ∧ (
      I (buC.mk r xs) (buX.mk [] 0) (buX.mk (catS (catS x5.1 [47]) s7) (addI IntKind.i64 x5.2 1)) m'8)))))))) (
      need (andB (leI 0 x5.2) (ltI x5.2 (lenL xs))) (
      need (okRow xs x5.2.toNat 1) (
      ∃ s7 : List UInt8, ((sub (rowAt xs x5.2) 0 1 : Option (List V)) = some [V.str s7]) ∧ (
      need (catOk x5.1 s7) (
      ((buC.mk r xs : (buL I).C) = buC.mk r xs) ∧ (
      ∃ m'8 : Nat, (((m'8 : Nat) < m6)) ∧ (
      I (buC.mk r xs) (buX.mk [] 0) (buX.mk (catS x5.1 s7) (addI IntKind.i64 x5.2 1)) m'8)))))))) (
    br (r) (
      need (catOk [47] x5.1) (
      K (V.str (47 :: x5.1)) [])) (
      br (eqS x5.1 []) (
        K (V.str [46]) []) (
        K (V.str x5.1) [])))))) := by kernel_rfl

end Go.Proofs.YthhpdnlfhofanaaGreatDoor
namespace Go.Proofs.YthhpdnlfhofanaaGreatDoor
open Go.RowKit
set_option maxRecDepth 100000
set_option linter.unusedVariables false
set_option linter.unusedSimpArgs false
theorem vu_con [MaxL] {n : Nat} (hn : 1 ≤ n) : ConOk (evalF Tryz.prog cfgE n) 119 vuCon := by
  intro vs bs K h
  unfold vuCon at h
  split at h
  · rename_i s
    refine run_of (lp := lpOf [(4, vuL fun _ _ x m => ∃ k : Nat, x = ⟨(k : Int)⟩ ∧ k + m = s.length)]) hn (fun k _ => noCt_ok _) ?_
    rw [vu_vc]
    rw [br_iff]; refine ⟨fun _ => h _, fun g1 => ?_⟩
    rw [br_iff]; refine ⟨fun _ => h _, fun g2 => ?_⟩
    simp only [br_iff, need_iff, andB_t, andB_f, orB_t, orB_f, notB_t, notB_f, leI_t, leI_f, ltI_t, ltI_f, eqI_t, eqI_f, leN_t, leN_f, eqN_t, eqN_f, eqS_t, eqS_f, eqB_t, eqB_f, catOk_t, leC_t, lenS] at g1 g2
    refine ⟨⟨s.length, by omega, 0, rfl, by omega⟩, ?_⟩
    rintro _ m ⟨k, rfl, hk⟩
    dsimp only
    rw [br_iff]; refine ⟨fun hlt => ?_, fun _ => h _⟩
    have hlt : k < s.length := by simp only [br_iff, need_iff, andB_t, andB_f, orB_t, orB_f, notB_t, notB_f, leI_t, leI_f, ltI_t, ltI_f, eqI_t, eqI_f, leN_t, leN_f, eqN_t, eqN_f, eqS_t, eqS_f, eqB_t, eqB_f, catOk_t, leC_t, lenS] at hlt; omega
    have ha : addI .i64 (k : Int) 1 = ((k + 1 : Nat) : Int) := by rw [addI_i64 (by omega) (by omega)]; rfl
    rw [need_iff]; refine ⟨by simp only [br_iff, need_iff, andB_t, andB_f, orB_t, orB_f, notB_t, notB_f, leI_t, leI_f, ltI_t, ltI_f, eqI_t, eqI_f, leN_t, leN_f, eqN_t, eqN_f, eqS_t, eqS_f, eqB_t, eqB_f, catOk_t, leC_t, lenS]; omega, ?_⟩
    unfold vu_vc_1 vu_vc_2
    simp only [ha]
    repeat' first
      | (rw [br_iff]; refine ⟨fun _ => ?_, fun _ => ?_⟩)
      | exact h _
      | exact ⟨by trivial, m - 1, by omega, k + 1, rfl, by omega⟩
  · exact h.elim
theorem vp_con [MaxL] {n : Nat} (hn : 1 ≤ n) : ConOk (evalF Tryz.prog cfgE n) 120 vpCon := by
  intro vs bs K h
  unfold vpCon at h
  split at h
  · rename_i s
    obtain ⟨hs, h⟩ := h
    refine run_of (lp := lpOf [(2, vpL fun _ _ x m => ∃ k : Nat, x = ⟨(k : Int)⟩ ∧ k + m = s.length)]) hn (fun k _ => noCt_ok _) ?_
    rw [vp_vc]
    refine ⟨⟨s.length, by omega, 0, rfl, by omega⟩, ?_⟩
    rintro _ m ⟨k, rfl, hk⟩
    dsimp only
    rw [br_iff]; refine ⟨fun hlt => ?_, fun _ => ?_⟩
    · have hlt : k < s.length := by simp only [br_iff, need_iff, andB_t, andB_f, orB_t, orB_f, notB_t, notB_f, leI_t, leI_f, ltI_t, ltI_f, eqI_t, eqI_f, leN_t, leN_f, eqN_t, eqN_f, eqS_t, eqS_f, eqB_t, eqB_f, catOk_t, leC_t, lenS] at hlt; omega
      have ha : addI .i64 (k : Int) 1 = ((k + 1 : Nat) : Int) := by rw [addI_i64 (by omega) (by omega)]; rfl
      have hin : andB (leI 0 (k : Int)) (ltI (k : Int) (lenS s)) = true := by simp only [br_iff, need_iff, andB_t, andB_f, orB_t, orB_f, notB_t, notB_f, leI_t, leI_f, ltI_t, ltI_f, eqI_t, eqI_f, leN_t, leN_f, eqN_t, eqN_f, eqS_t, eqS_f, eqB_t, eqB_f, catOk_t, leC_t, lenS]; omega
      simp only [ha, hin, need_tt]
      repeat' first
        | (rw [br_iff]; refine ⟨fun _ => ?_, fun _ => ?_⟩)
        | exact h _
        | exact ⟨by trivial, m - 1, by omega, k + 1, rfl, by omega⟩
    · repeat' first
        | (rw [br_iff]; refine ⟨fun _ => ?_, fun _ => ?_⟩)
        | exact h _
  · exact h.elim
theorem pp_con [MaxL] {n : Nat} (hn : 1 ≤ n) : ConOk (evalF Tryz.prog cfgE n) 271 ppCon := by
  intro vs bs K h
  unfold ppCon at h
  split at h
  · rename_i s
    obtain ⟨hs, h⟩ := h
    refine run_of (lp := lpOf [(4, ppL fun _ _ x m => ∃ (k f : Nat) (acc : List (List UInt8)), x = ⟨acc.length, acc.length, (f : Int), (k : Int), strV acc⟩ ∧ k + m = s.length + 1 ∧ f ≤ k ∧ acc.length ≤ k ∧ ∀ a ∈ acc, a.length ≤ 1024)]) hn (fun k _ => noCt_ok _) ?_
    rw [pp_vc]
    refine ⟨⟨s.length + 1, by omega, 0, 0, [], rfl, by omega, by omega, by simp, by simp⟩, ?_⟩
    rintro _ m ⟨k, f, acc, rfl, hk, hf, hacc, hl⟩
    dsimp only
    have hrl := strV_len acc
    rw [br_iff]; refine ⟨fun hlt => ?_, fun _ => ?_⟩
    · have hle : k ≤ s.length := by simp only [br_iff, need_iff, andB_t, andB_f, orB_t, orB_f, notB_t, notB_f, leI_t, leI_f, ltI_t, ltI_f, eqI_t, eqI_f, leN_t, leN_f, eqN_t, eqN_f, eqS_t, eqS_f, eqB_t, eqB_f, catOk_t, leC_t, lenS] at hlt; omega
      have ha : addI .i64 (k : Int) 1 = ((k + 1 : Nat) : Int) := by rw [addI_i64 (by omega) (by omega)]; rfl
      have sep : pp_vc_1 s (fun _ _ x m => ∃ (k f : Nat) (acc : List (List UInt8)), x = ⟨acc.length, acc.length, (f : Int), (k : Int), strV acc⟩ ∧ k + m = s.length + 1 ∧ f ≤ k ∧ acc.length ≤ k ∧ ∀ a ∈ acc, a.length ≤ 1024) K ⟨acc.length, acc.length, (f : Int), (k : Int), strV acc⟩ m := by
        unfold pp_vc_1
        simp only [ha]
        rw [need_iff]; refine ⟨by simp only [br_iff, need_iff, andB_t, andB_f, orB_t, orB_f, notB_t, notB_f, leI_t, leI_f, ltI_t, ltI_f, eqI_t, eqI_f, leN_t, leN_f, eqN_t, eqN_f, eqS_t, eqS_f, eqB_t, eqB_f, catOk_t, leC_t, lenS]; omega, ?_⟩
        rw [need_iff]; refine ⟨by simp only [br_iff, need_iff, andB_t, andB_f, orB_t, orB_f, notB_t, notB_f, leI_t, leI_f, ltI_t, ltI_f, eqI_t, eqI_f, leN_t, leN_f, eqN_t, eqN_f, eqS_t, eqS_f, eqB_t, eqB_f, catOk_t, leC_t]; omega, ?_⟩
        rw [need_iff]; refine ⟨strV_head _, ?_⟩
        refine app_br rfl hrl (by omega) ⟨by trivial, m - 1, by omega, k + 1, k + 1, acc ++ [cutS s f k], ?_, by omega, by omega, by simp; omega, ?_⟩
        · rw [List.drop_zero, show (strV acc ++ [[V.str (cutS s (f : Int) (k : Int))]]) = strV (acc ++ [cutS s f k]) from strV_app acc [cutS s f k]]
          simp
        · intro a ha
          rcases List.mem_append.1 ha with q | q
          · exact hl a q
          · obtain rfl := List.mem_singleton.1 q
            rw [cutS_nat]; simp; omega
      simp only [ha]
      rw [br_iff]; refine ⟨fun _ => sep, fun hne => ?_⟩
      have hlt : k < s.length := by simp only [br_iff, need_iff, andB_t, andB_f, orB_t, orB_f, notB_t, notB_f, leI_t, leI_f, ltI_t, ltI_f, eqI_t, eqI_f, leN_t, leN_f, eqN_t, eqN_f, eqS_t, eqS_f, eqB_t, eqB_f, catOk_t, leC_t, lenS] at hne; omega
      rw [need_iff]; refine ⟨by simp only [br_iff, need_iff, andB_t, andB_f, orB_t, orB_f, notB_t, notB_f, leI_t, leI_f, ltI_t, ltI_f, eqI_t, eqI_f, leN_t, leN_f, eqN_t, eqN_f, eqS_t, eqS_f, eqB_t, eqB_f, catOk_t, leC_t, lenS]; omega, ?_⟩
      rw [br_iff]; refine ⟨fun _ => sep, fun _ => ?_⟩
      exact ⟨by trivial, m - 1, by omega, k + 1, f, acc, rfl, by omega, by omega, by omega, hl⟩
    · rw [List.drop_zero, strV_all]
      exact h _ ⟨by omega, hl⟩
  · exact h.elim
theorem bu_con [MaxL] {n : Nat} (hn : 1 ≤ n) : ConOk (evalF Tryz.prog cfgE n) 206 buCon := by
  intro vs bs K h
  unfold buCon at h
  split at h
  · rename_i r xs
    obtain ⟨l, rfl, ⟨hl, hp⟩, h⟩ := h
    refine run_of (lp := lpOf [(3, buL fun _ _ x m => ∃ (k : Nat) (t : List UInt8), x = ⟨t, (k : Int)⟩ ∧ k + m = l.length ∧ t.length ≤ k * 1025)]) hn (fun k _ => noCt_ok _) ?_
    rw [bu_vc]
    simp only [strV_lenL]
    refine ⟨⟨l.length, by omega, 0, [], rfl, by omega, by simp⟩, ?_⟩
    rintro _ m ⟨k, t, rfl, hk, ht⟩
    dsimp only
    rw [br_iff]; refine ⟨fun hlt => ?_, fun _ => ?_⟩
    · have hlt : k < l.length := by simp only [br_iff, need_iff, andB_t, andB_f, orB_t, orB_f, notB_t, notB_f, leI_t, leI_f, ltI_t, ltI_f, eqI_t, eqI_f, leN_t, leN_f, eqN_t, eqN_f, eqS_t, eqS_f, eqB_t, eqB_f, catOk_t, leC_t] at hlt; omega
      have ha : addI .i64 (k : Int) 1 = ((k + 1 : Nat) : Int) := by rw [addI_i64 (by omega) (by omega)]; rfl
      have hin : andB (leI 0 (k : Int)) (ltI (k : Int) (l.length : Int)) = true := by simp only [br_iff, need_iff, andB_t, andB_f, orB_t, orB_f, notB_t, notB_f, leI_t, leI_f, ltI_t, ltI_f, eqI_t, eqI_f, leN_t, leN_f, eqN_t, eqN_f, eqS_t, eqS_f, eqB_t, eqB_f, catOk_t, leC_t]; omega
      obtain ⟨a, ga⟩ : ∃ a, l[k]? = some a := ⟨_, List.getElem?_eq_getElem hlt⟩
      have hal := hp a (List.mem_of_getElem? ga)
      have hok : okRow (strV l) (k : Int).toNat 1 = true := by simpa using strV_ok hlt
      simp only [ha, hin, need_tt, hok]
      rw [br_iff]; refine ⟨fun _ => ?_, fun _ => ?_⟩
      · rw [need_iff]; refine ⟨by rw [catOk_t]; simp; omega, ?_⟩
        refine ⟨a, by rw [strV_row ga]; rfl, ?_⟩
        rw [need_iff]; refine ⟨by rw [catOk_t]; simp [catS]; omega, ?_⟩
        exact ⟨by trivial, m - 1, by omega, k + 1, _, rfl, by omega, by simp [catS]; omega⟩
      · refine ⟨a, by rw [strV_row ga]; rfl, ?_⟩
        rw [need_iff]; refine ⟨by rw [catOk_t]; omega, ?_⟩
        exact ⟨by trivial, m - 1, by omega, k + 1, _, rfl, by omega, by simp [catS]; omega⟩
    · rw [br_iff]; refine ⟨fun _ => ?_, fun _ => ?_⟩
      · rw [need_iff]; refine ⟨by rw [catOk_t]; simp; omega, h _⟩
      · rw [br_iff]; exact ⟨fun _ => h _, fun _ => h _⟩
  · exact h.elim
end Go.Proofs.YthhpdnlfhofanaaGreatDoor
namespace Go.Proofs.YthhpdnlfhofanaaGreatDoor
open Go.RowKit
set_option maxRecDepth 100000
set_option linter.unusedVariables false
set_option linter.unusedSimpArgs false
structure saC where
  s : List UInt8
  xs : List (List V)
structure saX where
  i : Int
def saSt (c : saC) (x : saX) : St := ⟨[(0, .str c.s), (4, .lst c.xs), (5, .int .i64 x.i)], []⟩
set_option maxHeartbeats 4000000 in
def saUn (s : St) : Option (saC × saX) :=
  match s with
  | ⟨[(q0, .str s), (q1, .lst xs), (q2, .int .i64 i)], []⟩ => bif Nat.beq q0 0 && Nat.beq q1 4 && Nat.beq q2 5 then some (⟨s, xs⟩, ⟨i⟩) else none
  | _ => none
set_option maxHeartbeats 4000000 in
def saL (inv : saC → saX → saX → Nat → Prop) : LoopS where
  C := saC
  X := saX
  st := saSt
  un := saUn
  ok := by
    intro s c x h
    unfold saUn at h
    split at h
    · simp only [Bool.cond_eq_ite] at h
      split at h
      · rename_i hg
        simp only [Bool.and_eq_true, Nat.beq_eq] at hg
        obtain ⟨⟨rfl, rfl⟩, rfl⟩ := hg
        cases h
        rfl
      · cases h
    · cases h
  inv := inv

structure sbC where
  s : List UInt8
  xs : List (List V)
structure sbX where
  len : Nat
  cm : Nat
  i : Int
  es : List (List V)
def sbSt (c : sbC) (x : sbX) : St := ⟨[(0, .str c.s), (4, .lst c.xs), (6, .ref 0 0 x.len x.cm), (7, .int .i64 x.i)], [(0, ⟨true, false, true, x.es, 0⟩)]⟩
set_option maxHeartbeats 4000000 in
def sbUn (s : St) : Option (sbC × sbX) :=
  match s with
  | ⟨[(q0, .str s), (q1, .lst xs), (q2, .ref q3 q4 len cm), (q5, .int .i64 i)], [(q6, ⟨true, false, true, es, q7⟩)]⟩ => bif Nat.beq q0 0 && Nat.beq q1 4 && Nat.beq q2 6 && Nat.beq q3 0 && Nat.beq q4 0 && Nat.beq q5 7 && Nat.beq q6 0 && Nat.beq q7 0 then some (⟨s, xs⟩, ⟨len, cm, i, es⟩) else none
  | _ => none
set_option maxHeartbeats 4000000 in
def sbL (inv : sbC → sbX → sbX → Nat → Prop) : LoopS where
  C := sbC
  X := sbX
  st := sbSt
  un := sbUn
  ok := by
    intro s c x h
    unfold sbUn at h
    split at h
    · simp only [Bool.cond_eq_ite] at h
      split at h
      · rename_i hg
        simp only [Bool.and_eq_true, Nat.beq_eq] at hg
        obtain ⟨⟨⟨⟨⟨⟨⟨rfl, rfl⟩, rfl⟩, rfl⟩, rfl⟩, rfl⟩, rfl⟩, rfl⟩ := hg
        cases h
        rfl
      · cases h
    · cases h
  inv := inv

def spCon2 : Con := fun vs bs K => match vs, bs with
  | [.str s], [] => s.length ≤ 140737488355328 ∧ ∀ (l : List (List UInt8)) (e : Int), partsP l → K (.tup [.lst (strV l), .int .i64 e]) []
  | _, _ => False

def ceCon : Con := fun vs bs K => match vs, bs with
  | [.str s], [] => s.length ≤ 140737488355328 ∧ ∀ (t : List UInt8) (e : Int), K (.tup [.str t, .int .i64 e]) []
  | _, _ => False

def si_vc_2 [MaxL] (s : List UInt8) (I : saC → saX → saX → Nat → Prop) (J : sbC → sbX → sbX → Nat → Prop) (K : V → List Bk → Prop) (x8 : (sbL J).X) (l5 : List (List UInt8)) (m9 : Nat) : Prop :=
  (
                        need (andB (leI 0 x8.3) (ltI x8.3 (lenL (strV l5)))) (
                        need (okRow (strV l5) x8.3.toNat 1) (
                        ∃ s15 : List UInt8, ((sub (rowAt (strV l5) x8.3) 0 1 : Option (List V)) = some [V.str s15]) ∧ (
                        need (headOkP 1 x8.4) (
                        br (leN (x8.1 + 1) x8.2) (
                          ((sbC.mk s (strV l5) : (sbL J).C) = sbC.mk s (strV l5)) ∧ (
                          ∃ m'16 : Nat, (((m'16 : Nat) < m9)) ∧ (
                          J (sbC.mk s (strV l5)) (sbX.mk 0 0 0 []) (sbX.mk (x8.1 + 1) x8.2 (addI IntKind.i64 x8.3 1) (List.take (0 + x8.1) x8.4 ++ [[V.str s15]] ++ List.drop (0 + x8.1 + 1) x8.4)) m'16))) (
                          need (eqN (0 + x8.1) x8.4.length) (
                          need (leN ((x8.1 + 1) * 16) 140737488355328) (
                          ((sbC.mk s (strV l5) : (sbL J).C) = sbC.mk s (strV l5)) ∧ (
                          ∃ m'16 : Nat, (((m'16 : Nat) < m9)) ∧ (
                          J (sbC.mk s (strV l5)) (sbX.mk 0 0 0 []) (sbX.mk (x8.1 + 1) (x8.1 + 1) (addI IntKind.i64 x8.3 1) (List.drop 0 x8.4 ++ [[V.str s15]])) m'16))))))))))
def si_vc_1 [MaxL] (s : List UInt8) (I : saC → saX → saX → Nat → Prop) (J : sbC → sbX → sbX → Nat → Prop) (K : V → List Bk → Prop) (x8 : (sbL J).X) (l5 : List (List UInt8)) (m9 : Nat) : Prop :=
  (
                  need (andB (leI 0 x8.3) (ltI x8.3 (lenL (strV l5)))) (
                  need (okRow (strV l5) x8.3.toNat 1) (
                  ∃ s14 : List UInt8, ((sub (rowAt (strV l5) x8.3) 0 1 : Option (List V)) = some [V.str s14]) ∧ (
                  br (eqS s14 [46, 46]) (
                    br (ltI 0 (lenS s)) (
                      need (andB true (ltI 0 (lenS s))) (
                      br (eqI (atS s 0) 47) (
                        ((sbC.mk s (strV l5) : (sbL J).C) = sbC.mk s (strV l5)) ∧ (
                        ∃ m'15 : Nat, (((m'15 : Nat) < m9)) ∧ (
                        J (sbC.mk s (strV l5)) (sbX.mk 0 0 0 []) (sbX.mk x8.1 x8.2 (addI IntKind.i64 x8.3 1) x8.4) m'15))) (si_vc_2 s I J K x8 l5 m9))) (si_vc_2 s I J K x8 l5 m9)) (si_vc_2 s I J K x8 l5 m9)))))
theorem si_vc [MaxL] (s : List UInt8) (I : saC → saX → saX → Nat → Prop) (J : sbC → sbX → sbX → Nat → Prop) (K : V → List Bk → Prop) : vcF Tryz.prog cfgE (ctOf [(271, ppCon), (120, vpCon), (123, inlC Tryz.prog cfgE (ctOf []) 123)]) (lpOf [(5, saL I), (11, sbL J)]) 205 [.str s] [] K = (
  br (ltI 1024 (lenS s)) (
    K (V.tup [V.lst [], V.int IntKind.i64 4]) []) (
    (((s.length : Nat) ≤ 1024)) ∧ (
    ∀ l5 : List (List UInt8), (partsP l5) → (
    (∃ m6 : Nat, (((m6 : Nat) < 18446744073709551616)) ∧ (
    I (saC.mk s (strV l5)) (saX.mk 0) (saX.mk 0) m6)) ∧ (
    ∀ x6 : (saL I).X, ∀ m7 : Nat, (I (saC.mk s (strV l5)) (saX.mk 0) x6 m7) → (
    br (ltI x6.1 (lenL (strV l5))) (
      need (andB (leI 0 x6.1) (ltI x6.1 (lenL (strV l5)))) (
      need (okRow (strV l5) x6.1.toNat 1) (
      ∃ s8 : List UInt8, ((sub (rowAt (strV l5) x6.1) 0 1 : Option (List V)) = some [V.str s8]) ∧ (
      br (notB (eqS s8 [])) (
        need (andB (leI 0 x6.1) (ltI x6.1 (lenL (strV l5)))) (
        need (okRow (strV l5) x6.1.toNat 1) (
        ∃ s9 : List UInt8, ((sub (rowAt (strV l5) x6.1) 0 1 : Option (List V)) = some [V.str s9]) ∧ (
        br (notB (eqS s9 [46])) (
          need (andB (leI 0 x6.1) (ltI x6.1 (lenL (strV l5)))) (
          need (okRow (strV l5) x6.1.toNat 1) (
          ∃ s10 : List UInt8, ((sub (rowAt (strV l5) x6.1) 0 1 : Option (List V)) = some [V.str s10]) ∧ (
          br (notB (eqS s10 [46, 46])) (
            need (andB (leI 0 x6.1) (ltI x6.1 (lenL (strV l5)))) (
            need (okRow (strV l5) x6.1.toNat 1) (
            ∃ s11 : List UInt8, ((sub (rowAt (strV l5) x6.1) 0 1 : Option (List V)) = some [V.str s11]) ∧ (
            (((s11.length : Nat) ≤ 140737488355328)) ∧ (
            ∀ b12 : Bool, br (notB b12) (
              K (V.tup [V.lst [], V.int IntKind.i64 6]) []) (
              ((saC.mk s (strV l5) : (saL I).C) = saC.mk s (strV l5)) ∧ (
              ∃ m'13 : Nat, (((m'13 : Nat) < m7)) ∧ (
              I (saC.mk s (strV l5)) (saX.mk 0) (saX.mk (addI IntKind.i64 x6.1 1)) m'13)))))))) (
            ((saC.mk s (strV l5) : (saL I).C) = saC.mk s (strV l5)) ∧ (
            ∃ m'11 : Nat, (((m'11 : Nat) < m7)) ∧ (
            I (saC.mk s (strV l5)) (saX.mk 0) (saX.mk (addI IntKind.i64 x6.1 1)) m'11))))))) (
          ((saC.mk s (strV l5) : (saL I).C) = saC.mk s (strV l5)) ∧ (
          ∃ m'10 : Nat, (((m'10 : Nat) < m7)) ∧ (
          I (saC.mk s (strV l5)) (saX.mk 0) (saX.mk (addI IntKind.i64 x6.1 1)) m'10))))))) (
        ((saC.mk s (strV l5) : (saL I).C) = saC.mk s (strV l5)) ∧ (
        ∃ m'9 : Nat, (((m'9 : Nat) < m7)) ∧ (
        I (saC.mk s (strV l5)) (saX.mk 0) (saX.mk (addI IntKind.i64 x6.1 1)) m'9))))))) (
      (∃ m8 : Nat, (((m8 : Nat) < 18446744073709551616)) ∧ (
      J (sbC.mk s (strV l5)) (sbX.mk 0 0 0 []) (sbX.mk 0 0 0 []) m8)) ∧ (
      ∀ x8 : (sbL J).X, ∀ m9 : Nat, (J (sbC.mk s (strV l5)) (sbX.mk 0 0 0 []) x8 m9) → (
      br (ltI x8.3 (lenL (strV l5))) (
        need (andB (leI 0 x8.3) (ltI x8.3 (lenL (strV l5)))) (
        need (okRow (strV l5) x8.3.toNat 1) (
        ∃ s10 : List UInt8, ((sub (rowAt (strV l5) x8.3) 0 1 : Option (List V)) = some [V.str s10]) ∧ (
        br (eqS s10 []) (
          ((sbC.mk s (strV l5) : (sbL J).C) = sbC.mk s (strV l5)) ∧ (
          ∃ m'11 : Nat, (((m'11 : Nat) < m9)) ∧ (
          J (sbC.mk s (strV l5)) (sbX.mk 0 0 0 []) (sbX.mk x8.1 x8.2 (addI IntKind.i64 x8.3 1) x8.4) m'11))) (
          need (andB (leI 0 x8.3) (ltI x8.3 (lenL (strV l5)))) (
          need (okRow (strV l5) x8.3.toNat 1) (
          ∃ s11 : List UInt8, ((sub (rowAt (strV l5) x8.3) 0 1 : Option (List V)) = some [V.str s11]) ∧ (
          br (eqS s11 [46]) (
            ((sbC.mk s (strV l5) : (sbL J).C) = sbC.mk s (strV l5)) ∧ (
            ∃ m'12 : Nat, (((m'12 : Nat) < m9)) ∧ (
            J (sbC.mk s (strV l5)) (sbX.mk 0 0 0 []) (sbX.mk x8.1 x8.2 (addI IntKind.i64 x8.3 1) x8.4) m'12))) (
            need (andB (leI 0 x8.3) (ltI x8.3 (lenL (strV l5)))) (
            need (okRow (strV l5) x8.3.toNat 1) (
            ∃ s12 : List UInt8, ((sub (rowAt (strV l5) x8.3) 0 1 : Option (List V)) = some [V.str s12]) ∧ (
            br (eqS s12 [46, 46]) (
              br (ltI 0 (Int.ofNat x8.1)) (
                need (andB (leI 0 (subI IntKind.i64 (Int.ofNat x8.1) 1)) (ltI (subI IntKind.i64 (Int.ofNat x8.1) 1) (Int.ofNat x8.1))) (
                need (okRow x8.4 (0 + (subI IntKind.i64 (Int.ofNat x8.1) 1).toNat) 1) (
                ∃ s13 : List UInt8, ((partAt x8.4 (0 + (subI IntKind.i64 (Int.ofNat x8.1) 1).toNat) 0 1 : Option (List V)) = some [V.str s13]) ∧ (
                br (notB (eqS s13 [46, 46])) (
                  need (headOkP 1 x8.4) (
                  need (andB (leI 0 (subI IntKind.i64 (Int.ofNat x8.1) 1)) (leI (subI IntKind.i64 (Int.ofNat x8.1) 1) (Int.ofNat x8.2))) (
                  ((sbC.mk s (strV l5) : (sbL J).C) = sbC.mk s (strV l5)) ∧ (
                  ∃ m'14 : Nat, (((m'14 : Nat) < m9)) ∧ (
                  J (sbC.mk s (strV l5)) (sbX.mk 0 0 0 []) (sbX.mk ((subI IntKind.i64 (Int.ofNat x8.1) 1).toNat - 0) (x8.2 - 0) (addI IntKind.i64 x8.3 1) x8.4) m'14))))) (si_vc_1 s I J K x8 l5 m9))))) (si_vc_1 s I J K x8 l5 m9)) (si_vc_1 s I J K x8 l5 m9))))))))))))) (
        br (ltI 32 (Int.ofNat x8.1)) (
          K (V.tup [V.lst [], V.int IntKind.i64 4]) []) (
          K (V.tup [V.lst (List.take x8.1 (List.drop 0 x8.4)), V.int IntKind.i64 0]) []))))))))))) := by kernel_rfl

theorem ce_vc [MaxL] (s : List UInt8) (K : V → List Bk → Prop) : vcF Tryz.prog cfgE (ctOf [(205, spCon2), (206, buCon), (123, inlC Tryz.prog cfgE (ctOf []) 123)]) (lpOf []) 122 [.str s] [] K = (
  (((s.length : Nat) ≤ 140737488355328)) ∧ (
  ∀ l3 : List (List UInt8), ∀ e4 : Int, (partsP l3) → (
  br (notB (eqI e4 0)) (
    K (V.tup [V.str [], V.int IntKind.i64 e4]) []) (
    br (ltI 0 (lenS s)) (
      need (andB true (ltI 0 (lenS s))) (
      ∃ l5 : List (List UInt8), ((strV l3 : List (List V)) = strV l5) ∧ (
      (partsP l5) ∧ (
      ∀ t6 : List UInt8, K (V.tup [V.str t6, V.int IntKind.i64 0]) [])))) (
      ∃ l5 : List (List UInt8), ((strV l3 : List (List V)) = strV l5) ∧ (
      (partsP l5) ∧ (
      ∀ t6 : List UInt8, K (V.tup [V.str t6, V.int IntKind.i64 0]) []))))))) := by kernel_rfl

end Go.Proofs.YthhpdnlfhofanaaGreatDoor
namespace Go.Proofs.YthhpdnlfhofanaaGreatDoor
open Go.RowKit
set_option maxRecDepth 100000
set_option linter.unusedVariables false
set_option linter.unusedSimpArgs false
def sbI (l : List (List UInt8)) (x : sbX) (m : Nat) : Prop := ∃ (k len : Nat) (acc : List (List UInt8)), x = ⟨len, acc.length, (k : Int), strV acc⟩ ∧ k + m = l.length ∧ len ≤ acc.length ∧ acc.length ≤ k ∧ ∀ a ∈ acc, a.length ≤ 1024
theorem sp_con2 [MaxL] {n : Nat} (hn : 2 ≤ n) : ConOk (evalF Tryz.prog cfgE n) 205 spCon2 := by
  intro vs bs K h
  unfold spCon2 at h
  split at h
  · rename_i s
    obtain ⟨hs, h⟩ := h
    refine run_of (lp := lpOf [(5, saL fun c _ x m => ∃ k : Nat, x = ⟨(k : Int)⟩ ∧ k + m = c.xs.length), (11, sbL fun c _ x m => ∃ l, c.xs = strV l ∧ sbI l x m)]) (by omega)
      (ct := ctOf [(271, ppCon), (120, vpCon), (123, inlC Tryz.prog cfgE (ctOf []) 123)]) (fun q hq => ctOf_ok (ctOf_cons (pp_con (by omega)) (ctOf_cons (vp_con (by omega)) (ctOf_cons (inl_ok (by omega) fun _ _ => noCt_ok _) (ctOf_nil _))))) ?_
    rw [si_vc]
    have bad : ∀ e : Int, K (.tup [.lst [], .int .i64 e]) [] := fun e => h [] e ⟨by simp, by simp⟩
    rw [br_iff]; refine ⟨fun _ => bad _, fun g1 => ?_⟩
    have g1 : s.length ≤ 1024 := by simp only [br_iff, need_iff, andB_t, andB_f, orB_t, orB_f, notB_t, notB_f, leI_t, leI_f, ltI_t, ltI_f, eqI_t, eqI_f, leN_t, leN_f, eqN_t, eqN_f, eqS_t, eqS_f, eqB_t, eqB_f, catOk_t, leC_t, lenS] at g1; omega
    refine ⟨g1, fun l hl => ?_⟩
    simp only [strV_len, strV_lenL]
    have hll := hl.1
    refine ⟨⟨l.length, by omega, 0, rfl, by omega⟩, ?_⟩
    rintro _ m ⟨k, rfl, hk⟩
    dsimp only
    rw [br_iff]; refine ⟨fun hlt => ?_, fun _ => ?_⟩
    · have hlt : k < l.length := by simp only [br_iff, need_iff, andB_t, andB_f, orB_t, orB_f, notB_t, notB_f, leI_t, leI_f, ltI_t, ltI_f, eqI_t, eqI_f, leN_t, leN_f, eqN_t, eqN_f, eqS_t, eqS_f, eqB_t, eqB_f, catOk_t, leC_t] at hlt; omega
      have ha : addI .i64 (k : Int) 1 = ((k + 1 : Nat) : Int) := by rw [addI_i64 (by omega) (by omega)]; rfl
      have hin : andB (leI 0 (k : Int)) (ltI (k : Int) (l.length : Int)) = true := by simp only [br_iff, need_iff, andB_t, andB_f, orB_t, orB_f, notB_t, notB_f, leI_t, leI_f, ltI_t, ltI_f, eqI_t, eqI_f, leN_t, leN_f, eqN_t, eqN_f, eqS_t, eqS_f, eqB_t, eqB_f, catOk_t, leC_t]; omega
      obtain ⟨a, ga⟩ : ∃ a, l[k]? = some a := ⟨_, List.getElem?_eq_getElem hlt⟩
      have hal := hl.2 a (List.mem_of_getElem? ga)
      have hok : okRow (strV l) (k : Int).toNat 1 = true := by simpa using strV_ok hlt
      have hsub : sub (rowAt (strV l) (k : Int)) 0 1 = some [V.str a] := by rw [strV_row ga]; rfl
      simp only [ha, hin, need_tt, hok, hsub]
      refine ⟨a, rfl, ?_⟩
      rw [br_iff]; refine ⟨fun _ => ?_, fun _ => ⟨by trivial, m - 1, by omega, k + 1, rfl, by omega⟩⟩
      refine ⟨a, rfl, ?_⟩
      rw [br_iff]; refine ⟨fun _ => ?_, fun _ => ⟨by trivial, m - 1, by omega, k + 1, rfl, by omega⟩⟩
      refine ⟨a, rfl, ?_⟩
      rw [br_iff]; refine ⟨fun _ => ?_, fun _ => ⟨by trivial, m - 1, by omega, k + 1, rfl, by omega⟩⟩
      refine ⟨a, rfl, by omega, fun b => ?_⟩
      rw [br_iff]; exact ⟨fun _ => bad _, fun _ => ⟨by trivial, m - 1, by omega, k + 1, rfl, by omega⟩⟩
    · refine ⟨⟨l.length, by omega, l, rfl, 0, 0, [], rfl, by omega, by simp, by simp, by simp⟩, ?_⟩
      rintro _ m ⟨l', hll', k, len, acc, rfl, hk, hlen, hacc, hp⟩
      obtain rfl : l = l' := strV_inj.1 hll'
      clear hll'
      dsimp only
      rw [br_iff]; refine ⟨fun hlt => ?_, fun _ => ?_⟩
      · have hlt : k < l.length := by simp only [br_iff, need_iff, andB_t, andB_f, orB_t, orB_f, notB_t, notB_f, leI_t, leI_f, ltI_t, ltI_f, eqI_t, eqI_f, leN_t, leN_f, eqN_t, eqN_f, eqS_t, eqS_f, eqB_t, eqB_f, catOk_t, leC_t] at hlt; omega
        have ha : addI .i64 (k : Int) 1 = ((k + 1 : Nat) : Int) := by rw [addI_i64 (by omega) (by omega)]; rfl
        have hin : andB (leI 0 (k : Int)) (ltI (k : Int) (l.length : Int)) = true := by simp only [br_iff, need_iff, andB_t, andB_f, orB_t, orB_f, notB_t, notB_f, leI_t, leI_f, ltI_t, ltI_f, eqI_t, eqI_f, leN_t, leN_f, eqN_t, eqN_f, eqS_t, eqS_f, eqB_t, eqB_f, catOk_t, leC_t]; omega
        obtain ⟨a, ga⟩ : ∃ a, l[k]? = some a := ⟨_, List.getElem?_eq_getElem hlt⟩
        have hal := hl.2 a (List.mem_of_getElem? ga)
        have hok : okRow (strV l) (k : Int).toNat 1 = true := by simpa using strV_ok hlt
        have hsub : sub (rowAt (strV l) (k : Int)) 0 1 = some [V.str a] := by rw [strV_row ga]; rfl
        have skip : ∃ m' : Nat, m' < m ∧ ∃ l', strV l = strV l' ∧ sbI l' ⟨len, acc.length, ((k + 1 : Nat) : Int), strV acc⟩ m' := ⟨m - 1, by omega, l, rfl, k + 1, len, acc, rfl, by omega, hlen, by omega, hp⟩
        have add : si_vc_2 s (fun c _ x m => ∃ k : Nat, x = ⟨(k : Int)⟩ ∧ k + m = c.xs.length) (fun c _ x m => ∃ l, c.xs = strV l ∧ sbI l x m) K ⟨len, acc.length, (k : Int), strV acc⟩ l m := by
          unfold si_vc_2
          simp only [ha, hin, need_tt, hok, hsub, strV_lenL]
          refine ⟨a, rfl, ?_⟩
          rw [need_iff]; refine ⟨strV_head _, ?_⟩
          rw [br_iff]; refine ⟨fun hr => ?_, fun hr => ?_⟩
          · have hr : len + 1 ≤ acc.length := by simpa only [br_iff, need_iff, andB_t, andB_f, orB_t, orB_f, notB_t, notB_f, leI_t, leI_f, ltI_t, ltI_f, eqI_t, eqI_f, leN_t, leN_f, eqN_t, eqN_f, eqS_t, eqS_f, eqB_t, eqB_f, catOk_t, leC_t] using hr
            refine ⟨by trivial, m - 1, by omega, l, rfl, k + 1, len + 1, acc.take len ++ [a] ++ acc.drop (len + 1), ?_, by omega, by simp; omega, by simp; omega, ?_⟩
            · rw [← strV_app, ← strV_app, ← strV_take, ← strV_drop]
              simp [strV]
              omega
            · intro y hy
              simp only [List.mem_append, List.mem_singleton] at hy
              rcases hy with (hy | rfl) | hy
              · exact hp y (List.mem_of_mem_take hy)
              · exact hal
              · exact hp y (List.mem_of_mem_drop hy)
          · have hr : len = acc.length := by simp only [br_iff, need_iff, andB_t, andB_f, orB_t, orB_f, notB_t, notB_f, leI_t, leI_f, ltI_t, ltI_f, eqI_t, eqI_f, leN_t, leN_f, eqN_t, eqN_f, eqS_t, eqS_f, eqB_t, eqB_f, catOk_t, leC_t] at hr; omega
            subst hr
            rw [need_iff]; refine ⟨by rw [strV_len]; simp [br_iff, need_iff, andB_t, andB_f, orB_t, orB_f, notB_t, notB_f, leI_t, leI_f, ltI_t, ltI_f, eqI_t, eqI_f, leN_t, leN_f, eqN_t, eqN_f, eqS_t, eqS_f, eqB_t, eqB_f, catOk_t, leC_t], ?_⟩
            rw [need_iff]; refine ⟨by simp only [br_iff, need_iff, andB_t, andB_f, orB_t, orB_f, notB_t, notB_f, leI_t, leI_f, ltI_t, ltI_f, eqI_t, eqI_f, leN_t, leN_f, eqN_t, eqN_f, eqS_t, eqS_f, eqB_t, eqB_f, catOk_t, leC_t]; omega, ?_⟩
            refine ⟨by trivial, m - 1, by omega, l, rfl, k + 1, acc.length + 1, acc ++ [a], ?_, by omega, by simp, by simp; omega, ?_⟩
            · rw [List.drop_zero, show strV acc ++ [[V.str a]] = strV (acc ++ [a]) from strV_app acc [a]]; simp
            · intro y hy
              rcases List.mem_append.1 hy with q | q
              · exact hp y q
              · obtain rfl := List.mem_singleton.1 q; exact hal
        have mid : si_vc_1 s (fun c _ x m => ∃ k : Nat, x = ⟨(k : Int)⟩ ∧ k + m = c.xs.length) (fun c _ x m => ∃ l, c.xs = strV l ∧ sbI l x m) K ⟨len, acc.length, (k : Int), strV acc⟩ l m := by
          unfold si_vc_1
          simp only [ha, hin, need_tt, hok, hsub, strV_lenL]
          refine ⟨a, rfl, ?_⟩
          rw [br_iff]; refine ⟨fun _ => ?_, fun _ => add⟩
          rw [br_iff]; refine ⟨fun hz => ?_, fun _ => add⟩
          rw [need_iff]; refine ⟨hz, ?_⟩
          rw [br_iff]; exact ⟨fun _ => ⟨by trivial, skip⟩, fun _ => add⟩
        simp only [ha, hin, need_tt, hok, hsub]
        refine ⟨a, rfl, ?_⟩
        rw [br_iff]; refine ⟨fun _ => ⟨by trivial, skip⟩, fun _ => ?_⟩
        refine ⟨a, rfl, ?_⟩
        rw [br_iff]; refine ⟨fun _ => ⟨by trivial, skip⟩, fun _ => ?_⟩
        refine ⟨a, rfl, ?_⟩
        rw [br_iff]; refine ⟨fun _ => ?_, fun _ => mid⟩
        rw [br_iff]; refine ⟨fun h0 => ?_, fun _ => mid⟩
        have h0 : 0 < len := by simp only [br_iff, need_iff, andB_t, andB_f, orB_t, orB_f, notB_t, notB_f, leI_t, leI_f, ltI_t, ltI_f, eqI_t, eqI_f, leN_t, leN_f, eqN_t, eqN_f, eqS_t, eqS_f, eqB_t, eqB_f, catOk_t, leC_t, Int.ofNat_eq_natCast] at h0; omega
        have hs1 : subI .i64 (Int.ofNat len) 1 = ((len - 1 : Nat) : Int) := by rw [subI_i64 (by simp only [Int.ofNat_eq_natCast]; omega) (by simp only [Int.ofNat_eq_natCast]; omega)]; simp only [Int.ofNat_eq_natCast]; omega
        rw [hs1]
        simp only [Int.toNat_natCast, Nat.zero_add]
        obtain ⟨z, gz⟩ : ∃ z, acc[len - 1]? = some z := ⟨_, List.getElem?_eq_getElem (by omega)⟩
        rw [need_iff]; refine ⟨by simp only [br_iff, need_iff, andB_t, andB_f, orB_t, orB_f, notB_t, notB_f, leI_t, leI_f, ltI_t, ltI_f, eqI_t, eqI_f, leN_t, leN_f, eqN_t, eqN_f, eqS_t, eqS_f, eqB_t, eqB_f, catOk_t, leC_t, Int.ofNat_eq_natCast]; omega, ?_⟩
        rw [need_iff]; refine ⟨strV_ok (by omega), ?_⟩
        refine ⟨z, by simp [partAt, strV, gz]; rfl, ?_⟩
        rw [br_iff]; refine ⟨fun _ => ?_, fun _ => mid⟩
        rw [need_iff]; refine ⟨strV_head _, ?_⟩
        rw [need_iff]; refine ⟨by simp only [br_iff, need_iff, andB_t, andB_f, orB_t, orB_f, notB_t, notB_f, leI_t, leI_f, ltI_t, ltI_f, eqI_t, eqI_f, leN_t, leN_f, eqN_t, eqN_f, eqS_t, eqS_f, eqB_t, eqB_f, catOk_t, leC_t, Int.ofNat_eq_natCast]; omega, ?_⟩
        exact ⟨by trivial, m - 1, by omega, l, rfl, k + 1, len - 1, acc, rfl, by omega, by omega, by omega, hp⟩
      · rw [br_iff]; refine ⟨fun _ => bad _, fun _ => ?_⟩
        rw [List.drop_zero, strV_take]
        exact h _ _ ⟨by simp; omega, fun y hy => hp y (List.mem_of_mem_take hy)⟩
  · exact h.elim
theorem ce_con [MaxL] {n : Nat} (hn : 3 ≤ n) : ConOk (evalF Tryz.prog cfgE n) 122 ceCon := by
  intro vs bs K h
  unfold ceCon at h
  split at h
  · rename_i s
    obtain ⟨hs, h⟩ := h
    refine run_of (lp := lpOf []) (by omega)
      (ct := ctOf [(205, spCon2), (206, buCon), (123, inlC Tryz.prog cfgE (ctOf []) 123)]) (fun q hq => ctOf_ok (ctOf_cons (sp_con2 (by omega)) (ctOf_cons (bu_con (by omega)) (ctOf_cons (inl_ok (by omega) fun _ _ => noCt_ok _) (ctOf_nil _))))) ?_
    rw [ce_vc]
    refine ⟨hs, fun l e hl => ?_⟩
    rw [br_iff]; refine ⟨fun _ => h _ _, fun _ => ?_⟩
    rw [br_iff]; refine ⟨fun hz => ?_, fun _ => ⟨l, rfl, hl, fun t => h _ _⟩⟩
    rw [need_iff]; exact ⟨hz, l, rfl, hl, fun t => h _ _⟩
  · exact h.elim
end Go.Proofs.YthhpdnlfhofanaaGreatDoor
namespace Go.Proofs.YthhpdnlfhofanaaGreatDoor
open Go.RowKit
set_option maxRecDepth 100000
set_option linter.unusedVariables false
set_option linter.unusedSimpArgs false
theorem mem_modify_or {α : Type} {f : α → α} : ∀ {l : List α} {k : Nat} {p : α}, p ∈ l.modify k f → ∃ q ∈ l, p = q ∨ p = f q
  | [], k, p, h => by cases k <;> simp at h
  | a :: t, 0, p, h => by
    simp only [List.modify_zero_cons, List.mem_cons] at h
    rcases h with rfl | h
    · exact ⟨a, List.mem_cons_self .., .inr rfl⟩
    · exact ⟨p, List.mem_cons_of_mem _ h, .inl rfl⟩
  | a :: t, k + 1, p, h => by
    simp only [List.modify_succ_cons, List.mem_cons] at h
    rcases h with rfl | h
    · exact ⟨p, List.mem_cons_self .., .inl rfl⟩
    · obtain ⟨q, hq, e⟩ := mem_modify_or h
      exact ⟨q, List.mem_cons_of_mem _ hq, e⟩
/-- The lists of every process are short. -/
def shortP (l : List Proc) : Prop := ∀ p ∈ l, p.notes.length ≤ 8 ∧ p.waits.length ≤ 64
theorem shortP.lenP {l : List Proc} (h : shortP l) : lenP l := fun p hp => by have := h p hp; omega
theorem repP_len {id : Int} {p : Proc} : (repP id p).notes = p.notes ∧ (repP id p).waits = p.waits := by
  unfold repP; split <;> exact ⟨rfl, rfl⟩
theorem exitL_len {id : Int} {k : Nat} {l : List Proc} (h : lenP l) : lenP (exitL id k l) := by
  intro p hp
  unfold exitL at hp
  obtain ⟨q, hq, rfl⟩ := List.mem_map.1 hp
  rw [repP_len.1, repP_len.2]
  exact h q (List.mem_of_mem_eraseIdx hq)
theorem exitL_length {id : Int} {k : Nat} {l : List Proc} : (exitL id k l).length ≤ l.length := by
  unfold exitL
  rw [List.length_map]
  exact (List.eraseIdx_sublist l k).length_le
theorem exitL2_ok {ps : List Proc} {id : Int} {st : List UInt8} (h : shortP ps) : lenP (exitL2 ps id st) ∧ (exitL2 ps id st).length ≤ ps.length := by
  unfold exitL2
  split
  · exact ⟨h.lenP, Nat.le_refl _⟩
  split
  · exact ⟨h.lenP, Nat.le_refl _⟩
  split
  · exact ⟨h.lenP, Nat.le_refl _⟩
  split
  · refine ⟨exitL_len fun p hp => ?_, Nat.le_trans exitL_length (by simp)⟩
    obtain ⟨q, hq, rfl | rfl⟩ := mem_modify_or hp
    · exact h.lenP p hq
    · have := h q hq
      simp only [List.length_append, List.length_cons, List.length_nil]
      omega
  · exact ⟨exitL_len h.lenP, exitL_length⟩
theorem exitX_procV (ps : List Proc) (id : Int) (st : List UInt8) : exitX (procV ps) id st = procV (exitL2 ps id st) := by
  unfold exitX; rw [unP_of]
theorem exitX_same {ps : List Proc} {id : Int} {st : List UInt8} (h : exitE (procV ps) id st ≠ 0) : exitX (procV ps) id st = procV ps := by
  rw [exitX_procV]
  unfold exitE at h
  rw [unP_of] at h
  unfold exitL2
  dsimp only at h
  split
  · rfl
  split
  · rfl
  split
  · rfl
  · rename_i h1 h2 h3
    rw [if_neg h1, if_neg h2, if_neg h3] at h
    exact absurd rfl h
theorem exitOk_short {ps : List Proc} (h : shortP ps) (h0 : 0 < ps.length) (h1 : ps.length ≤ 70) : exitOk (procV ps) = true := by
  unfold exitOk
  rw [unP_of]
  simp only [Bool.and_eq_true, decide_eq_true_eq, List.all_eq_true]
  exact ⟨⟨h0, h1⟩, fun p hp => by have := h p hp; omega⟩
def fit1 (p : Proc) : Prop := p.fit
/-- Every process is within its type's bounds. -/
def fitP (l : List Proc) : Prop := ∀ p ∈ l, p.fit
/-- What a valid table is wanted for. -/
def rightP (nx : Int) (l : List Proc) : Prop := 0 < l.length ∧ l.length ≤ 64 ∧ shortP l ∧ (∀ p ∈ l, 1 ≤ p.id ∧ p.id ≤ 1048575) ∧ (∀ (a b : Nat) (p q : Proc), l[a]? = some p → l[b]? = some q → a < b → p.id < q.id)
theorem rightP.uniq {nx : Int} {l : List Proc} (h : rightP nx l) {id : Int} {p q : Proc} (hp : isP l id p) (hq : isP l id q) : q = p := by
  obtain ⟨_, _, _, _, ha⟩ := h
  obtain ⟨hp, e1⟩ := hp
  obtain ⟨hq, e2⟩ := hq
  obtain ⟨a, hpa⟩ := List.getElem?_of_mem hp
  obtain ⟨b, hqb⟩ := List.getElem?_of_mem hq
  rcases Nat.lt_trichotomy a b with h | rfl | h
  · have := ha _ _ _ _ hpa hqb h; omega
  · exact Option.some.inj (hqb.symm.trans hpa)
  · have := ha _ _ _ _ hqb hpa h; omega
end Go.Proofs.YthhpdnlfhofanaaGreatDoor
namespace Go.Proofs.YthhpdnlfhofanaaGreatDoor
open Go.RowKit
set_option maxRecDepth 100000
set_option linter.unusedVariables false
set_option linter.unusedSimpArgs false
structure qaC where
  b0 : List (List V)
  b1 : List (List V)
structure qaX where
  i : Int
def qaSt (c : qaC) (x : qaX) : St := ⟨[(2, .ptr 0 0 0), (3, .ptr 1 0 0), (7, .int .i64 x.i)], [(0, ⟨true, true, true, c.b0, 0⟩), (1, ⟨true, true, true, c.b1, 0⟩)]⟩
set_option maxHeartbeats 4000000 in
def qaUn (s : St) : Option (qaC × qaX) :=
  match s with
  | ⟨[(q0, .ptr q1 q2 q3), (q4, .ptr q5 q6 q7), (q8, .int .i64 i)], [(q9, ⟨true, true, true, b0, q10⟩), (q11, ⟨true, true, true, b1, q12⟩)]⟩ => bif Nat.beq q0 2 && Nat.beq q1 0 && Nat.beq q2 0 && Nat.beq q3 0 && Nat.beq q4 3 && Nat.beq q5 1 && Nat.beq q6 0 && Nat.beq q7 0 && Nat.beq q8 7 && Nat.beq q9 0 && Nat.beq q10 0 && Nat.beq q11 1 && Nat.beq q12 0 then some (⟨b0, b1⟩, ⟨i⟩) else none
  | _ => none
set_option maxHeartbeats 4000000 in
def qaL (inv : qaC → qaX → qaX → Nat → Prop) : LoopS where
  C := qaC
  X := qaX
  st := qaSt
  un := qaUn
  ok := by
    intro s c x h
    unfold qaUn at h
    split at h
    · simp only [Bool.cond_eq_ite] at h
      split at h
      · rename_i hg
        simp only [Bool.and_eq_true, Nat.beq_eq] at hg
        obtain ⟨⟨⟨⟨⟨⟨⟨⟨⟨⟨⟨⟨rfl, rfl⟩, rfl⟩, rfl⟩, rfl⟩, rfl⟩, rfl⟩, rfl⟩, rfl⟩, rfl⟩, rfl⟩, rfl⟩, rfl⟩ := hg
        cases h
        rfl
      · cases h
    · cases h
  inv := inv

structure qbC where
  b0 : List (List V)
  b1 : List (List V)
structure qbX where
  i : Int
def qbSt (c : qbC) (x : qbX) : St := ⟨[(2, .ptr 0 0 0), (3, .ptr 1 0 0), (8, .int .i64 x.i)], [(0, ⟨true, true, true, c.b0, 0⟩), (1, ⟨true, true, true, c.b1, 0⟩)]⟩
set_option maxHeartbeats 4000000 in
def qbUn (s : St) : Option (qbC × qbX) :=
  match s with
  | ⟨[(q0, .ptr q1 q2 q3), (q4, .ptr q5 q6 q7), (q8, .int .i64 i)], [(q9, ⟨true, true, true, b0, q10⟩), (q11, ⟨true, true, true, b1, q12⟩)]⟩ => bif Nat.beq q0 2 && Nat.beq q1 0 && Nat.beq q2 0 && Nat.beq q3 0 && Nat.beq q4 3 && Nat.beq q5 1 && Nat.beq q6 0 && Nat.beq q7 0 && Nat.beq q8 8 && Nat.beq q9 0 && Nat.beq q10 0 && Nat.beq q11 1 && Nat.beq q12 0 then some (⟨b0, b1⟩, ⟨i⟩) else none
  | _ => none
set_option maxHeartbeats 4000000 in
def qbL (inv : qbC → qbX → qbX → Nat → Prop) : LoopS where
  C := qbC
  X := qbX
  st := qbSt
  un := qbUn
  ok := by
    intro s c x h
    unfold qbUn at h
    split at h
    · simp only [Bool.cond_eq_ite] at h
      split at h
      · rename_i hg
        simp only [Bool.and_eq_true, Nat.beq_eq] at hg
        obtain ⟨⟨⟨⟨⟨⟨⟨⟨⟨⟨⟨⟨rfl, rfl⟩, rfl⟩, rfl⟩, rfl⟩, rfl⟩, rfl⟩, rfl⟩, rfl⟩, rfl⟩, rfl⟩, rfl⟩, rfl⟩ := hg
        cases h
        rfl
      · cases h
    · cases h
  inv := inv

structure qcC where
  b0 : List (List V)
  n : Int
structure qcX where
  i : Int
def qcSt (c : qcC) (x : qcX) : St := ⟨[(1, .ptr 0 0 0), (3, .int .i64 c.n), (4, .int .i64 x.i)], [(0, ⟨true, true, true, c.b0, 0⟩)]⟩
set_option maxHeartbeats 4000000 in
def qcUn (s : St) : Option (qcC × qcX) :=
  match s with
  | ⟨[(q0, .ptr q1 q2 q3), (q4, .int .i64 n), (q5, .int .i64 i)], [(q6, ⟨true, true, true, b0, q7⟩)]⟩ => bif Nat.beq q0 1 && Nat.beq q1 0 && Nat.beq q2 0 && Nat.beq q3 0 && Nat.beq q4 3 && Nat.beq q5 4 && Nat.beq q6 0 && Nat.beq q7 0 then some (⟨b0, n⟩, ⟨i⟩) else none
  | _ => none
set_option maxHeartbeats 4000000 in
def qcL (inv : qcC → qcX → qcX → Nat → Prop) : LoopS where
  C := qcC
  X := qcX
  st := qcSt
  un := qcUn
  ok := by
    intro s c x h
    unfold qcUn at h
    split at h
    · simp only [Bool.cond_eq_ite] at h
      split at h
      · rename_i hg
        simp only [Bool.and_eq_true, Nat.beq_eq] at hg
        obtain ⟨⟨⟨⟨⟨⟨⟨rfl, rfl⟩, rfl⟩, rfl⟩, rfl⟩, rfl⟩, rfl⟩, rfl⟩ := hg
        cases h
        rfl
      · cases h
    · cases h
  inv := inv

structure qdC where
  b0 : List (List V)
  n : Int
  i : Int
structure qdX where
  found : Bool
  k : Int
def qdSt (c : qdC) (x : qdX) : St := ⟨[(1, .ptr 0 0 0), (3, .int .i64 c.n), (4, .int .i64 c.i), (5, .bool x.found), (6, .int .i64 x.k)], [(0, ⟨true, true, true, c.b0, 0⟩)]⟩
set_option maxHeartbeats 4000000 in
def qdUn (s : St) : Option (qdC × qdX) :=
  match s with
  | ⟨[(q0, .ptr q1 q2 q3), (q4, .int .i64 n), (q5, .int .i64 i), (q6, .bool found), (q7, .int .i64 k)], [(q8, ⟨true, true, true, b0, q9⟩)]⟩ => bif Nat.beq q0 1 && Nat.beq q1 0 && Nat.beq q2 0 && Nat.beq q3 0 && Nat.beq q4 3 && Nat.beq q5 4 && Nat.beq q6 5 && Nat.beq q7 6 && Nat.beq q8 0 && Nat.beq q9 0 then some (⟨b0, n, i⟩, ⟨found, k⟩) else none
  | _ => none
set_option maxHeartbeats 4000000 in
def qdL (inv : qdC → qdX → qdX → Nat → Prop) : LoopS where
  C := qdC
  X := qdX
  st := qdSt
  un := qdUn
  ok := by
    intro s c x h
    unfold qdUn at h
    split at h
    · simp only [Bool.cond_eq_ite] at h
      split at h
      · rename_i hg
        simp only [Bool.and_eq_true, Nat.beq_eq] at hg
        obtain ⟨⟨⟨⟨⟨⟨⟨⟨⟨rfl, rfl⟩, rfl⟩, rfl⟩, rfl⟩, rfl⟩, rfl⟩, rfl⟩, rfl⟩, rfl⟩ := hg
        cases h
        rfl
      · cases h
    · cases h
  inv := inv

def fieldsP (b : Bool) (p : Proc) : Prop := b = true → p.notes.length ≤ 8 ∧ p.waits.length ≤ 64

def fieldsCon : Con := fun vs bs K => match vs, bs with
  | [.agg [.int .i64 nx, .int .i64 gp, .lst xs], .agg r], [] => ∃ p : Proc, r = p.v ∧ fit1 p ∧ ∀ b : Bool, fieldsP b p → K (.bool b) []
  | _, _ => False

def rf_vc_2 [MaxL] (nx gp : Int) (xs : List (List V)) (id parent state ns env fds : Int) (user name cwd status : List UInt8) (nt wt : List (List V)) (alone : Bool) (I : qaC → qaX → qaX → Nat → Prop) (J : qbC → qbX → qbX → Nat → Prop) (K : V → List Bk → Prop) : Prop :=
  (
              br (leI 1 ns) (
                br (notB (ltI ns gp)) (
                  K (V.bool false) []) (
                  br (leI 1 env) (
                    br (notB (ltI env gp)) (
                      K (V.bool false) []) (
                      br (leI 1 fds) (
                        br (notB (ltI fds gp)) (
                          K (V.bool false) []) (
                          br (notB (eqS status [])) (
                            K (V.bool false) []) (
                            (((cwd.length : Nat) ≤ 140737488355328)) ∧ (
                            ∀ t22 : List UInt8, ∀ e23 : Int, br (notB (eqI e23 0)) (
                              K (V.bool false) []) (
                              br (notB (eqS t22 cwd)) (
                                K (V.bool false) []) (
                                br (ltI 0 (lenS t22)) (
                                  need (andB true (ltI 0 (lenS t22))) (
                                  br (notB (eqI (atS t22 0) 47)) (
                                    K (V.bool false) []) (
                                    br (ltI 8 (lenL nt)) (
                                      K (V.bool false) []) (
                                      br (ltI 64 (lenL wt)) (
                                        K (V.bool false) []) (
                                        (∃ m24 : Nat, (((m24 : Nat) < 18446744073709551616)) ∧ (
                                        I (qaC.mk [[V.int IntKind.i64 nx, V.int IntKind.i64 gp, V.lst xs]] [[V.int IntKind.i64 id, V.int IntKind.i64 parent, V.int IntKind.i64 state, V.str user, V.str name, V.int IntKind.i64 ns, V.int IntKind.i64 env, V.int IntKind.i64 fds, V.str cwd, V.lst nt, V.str status, V.lst wt, V.bool alone]]) (qaX.mk 0) (qaX.mk 0) m24)) ∧ (
                                        ∀ x24 : (qaL I).X, ∀ m25 : Nat, (I (qaC.mk [[V.int IntKind.i64 nx, V.int IntKind.i64 gp, V.lst xs]] [[V.int IntKind.i64 id, V.int IntKind.i64 parent, V.int IntKind.i64 state, V.str user, V.str name, V.int IntKind.i64 ns, V.int IntKind.i64 env, V.int IntKind.i64 fds, V.str cwd, V.lst nt, V.str status, V.lst wt, V.bool alone]]) (qaX.mk 0) x24 m25) → (
                                        br (ltI x24.1 (lenL nt)) (
                                          need (andB (leI 0 x24.1) (ltI x24.1 (lenL nt))) (
                                          need (okRow nt x24.1.toNat 1) (
                                          ∃ s26 : List UInt8, ((sub (rowAt nt x24.1) 0 1 : Option (List V)) = some [V.str s26]) ∧ (
                                          br (ltI 1024 (lenS s26)) (
                                            K (V.bool false) []) (
                                            ((qaC.mk [[V.int IntKind.i64 nx, V.int IntKind.i64 gp, V.lst xs]] [[V.int IntKind.i64 id, V.int IntKind.i64 parent, V.int IntKind.i64 state, V.str user, V.str name, V.int IntKind.i64 ns, V.int IntKind.i64 env, V.int IntKind.i64 fds, V.str cwd, V.lst nt, V.str status, V.lst wt, V.bool alone]] : (qaL I).C) = qaC.mk [[V.int IntKind.i64 nx, V.int IntKind.i64 gp, V.lst xs]] [[V.int IntKind.i64 id, V.int IntKind.i64 parent, V.int IntKind.i64 state, V.str user, V.str name, V.int IntKind.i64 ns, V.int IntKind.i64 env, V.int IntKind.i64 fds, V.str cwd, V.lst nt, V.str status, V.lst wt, V.bool alone]]) ∧ (
                                            ∃ m'27 : Nat, (((m'27 : Nat) < m25)) ∧ (
                                            I (qaC.mk [[V.int IntKind.i64 nx, V.int IntKind.i64 gp, V.lst xs]] [[V.int IntKind.i64 id, V.int IntKind.i64 parent, V.int IntKind.i64 state, V.str user, V.str name, V.int IntKind.i64 ns, V.int IntKind.i64 env, V.int IntKind.i64 fds, V.str cwd, V.lst nt, V.str status, V.lst wt, V.bool alone]]) (qaX.mk 0) (qaX.mk (addI IntKind.i64 x24.1 1)) m'27))))))) (
                                          (∃ m26 : Nat, (((m26 : Nat) < 18446744073709551616)) ∧ (
                                          J (qbC.mk [[V.int IntKind.i64 nx, V.int IntKind.i64 gp, V.lst xs]] [[V.int IntKind.i64 id, V.int IntKind.i64 parent, V.int IntKind.i64 state, V.str user, V.str name, V.int IntKind.i64 ns, V.int IntKind.i64 env, V.int IntKind.i64 fds, V.str cwd, V.lst nt, V.str status, V.lst wt, V.bool alone]]) (qbX.mk 0) (qbX.mk 0) m26)) ∧ (
                                          ∀ x26 : (qbL J).X, ∀ m27 : Nat, (J (qbC.mk [[V.int IntKind.i64 nx, V.int IntKind.i64 gp, V.lst xs]] [[V.int IntKind.i64 id, V.int IntKind.i64 parent, V.int IntKind.i64 state, V.str user, V.str name, V.int IntKind.i64 ns, V.int IntKind.i64 env, V.int IntKind.i64 fds, V.str cwd, V.lst nt, V.str status, V.lst wt, V.bool alone]]) (qbX.mk 0) x26 m27) → (
                                          br (ltI x26.1 (lenL wt)) (
                                            need (andB (leI 0 x26.1) (ltI x26.1 (lenL wt))) (
                                            need (okRow wt x26.1.toNat 2) (
                                            ∃ n28 : Int, ((sub (rowAt wt x26.1) 0 1 : Option (List V)) = some [V.int IntKind.i64 n28]) ∧ (
                                            br (ltI n28 1) (
                                              K (V.bool false) []) (
                                              need (andB (leI 0 x26.1) (ltI x26.1 (lenL wt))) (
                                              need (okRow wt x26.1.toNat 2) (
                                              ∃ n29 : Int, ((sub (rowAt wt x26.1) 0 1 : Option (List V)) = some [V.int IntKind.i64 n29]) ∧ (
                                              br (leI nx n29) (
                                                K (V.bool false) []) (
                                                need (andB (leI 0 x26.1) (ltI x26.1 (lenL wt))) (
                                                need (okRow wt x26.1.toNat 2) (
                                                ∃ s30 : List UInt8, ((sub (rowAt wt x26.1) 1 1 : Option (List V)) = some [V.str s30]) ∧ (
                                                br (ltI 1024 (lenS s30)) (
                                                  K (V.bool false) []) (
                                                  ((qbC.mk [[V.int IntKind.i64 nx, V.int IntKind.i64 gp, V.lst xs]] [[V.int IntKind.i64 id, V.int IntKind.i64 parent, V.int IntKind.i64 state, V.str user, V.str name, V.int IntKind.i64 ns, V.int IntKind.i64 env, V.int IntKind.i64 fds, V.str cwd, V.lst nt, V.str status, V.lst wt, V.bool alone]] : (qbL J).C) = qbC.mk [[V.int IntKind.i64 nx, V.int IntKind.i64 gp, V.lst xs]] [[V.int IntKind.i64 id, V.int IntKind.i64 parent, V.int IntKind.i64 state, V.str user, V.str name, V.int IntKind.i64 ns, V.int IntKind.i64 env, V.int IntKind.i64 fds, V.str cwd, V.lst nt, V.str status, V.lst wt, V.bool alone]]) ∧ (
                                                  ∃ m'31 : Nat, (((m'31 : Nat) < m27)) ∧ (
                                                  J (qbC.mk [[V.int IntKind.i64 nx, V.int IntKind.i64 gp, V.lst xs]] [[V.int IntKind.i64 id, V.int IntKind.i64 parent, V.int IntKind.i64 state, V.str user, V.str name, V.int IntKind.i64 ns, V.int IntKind.i64 env, V.int IntKind.i64 fds, V.str cwd, V.lst nt, V.str status, V.lst wt, V.bool alone]]) (qbX.mk 0) (qbX.mk (addI IntKind.i64 x26.1 1)) m'31))))))))))))))) (
                                            K (V.bool true) []))))))))))) (
                                  K (V.bool false) []))))))) (
                        K (V.bool false) []))) (
                    K (V.bool false) []))) (
                K (V.bool false) []))
def rf_vc_1 [MaxL] (nx gp : Int) (xs : List (List V)) (id parent state ns env fds : Int) (user name cwd status : List UInt8) (nt wt : List (List V)) (alone : Bool) (I : qaC → qaX → qaX → Nat → Prop) (J : qbC → qbX → qbX → Nat → Prop) (K : V → List Bk → Prop) : Prop :=
  (
        ∀ b20 : Bool, br (notB b20) (
          K (V.bool false) []) (
          br (notB (eqS name [])) (
            (((name.length : Nat) ≤ 140737488355328)) ∧ (
            ∀ b21 : Bool, br (notB b21) (
              K (V.bool false) []) (rf_vc_2 nx gp xs id parent state ns env fds user name cwd status nt wt alone I J K))) (rf_vc_2 nx gp xs id parent state ns env fds user name cwd status nt wt alone I J K)))
theorem rf_vc [MaxL] (nx gp : Int) (xs : List (List V)) (id parent state ns env fds : Int) (user name cwd status : List UInt8) (nt wt : List (List V)) (alone : Bool) (I : qaC → qaX → qaX → Nat → Prop) (J : qbC → qbX → qbX → Nat → Prop) (K : V → List Bk → Prop) : vcF Tryz.prog cfgE (ctOf [(119, vuCon), (120, vpCon), (121, inlC Tryz.prog cfgE (ctOf []) 121), (122, ceCon), (123, inlC Tryz.prog cfgE (ctOf []) 123)]) (lpOf [(9, qaL I), (14, qbL J)]) 42 [.agg [.int .i64 nx, .int .i64 gp, .lst xs], .agg [.int .i64 id, .int .i64 parent, .int .i64 state, .str user, .str name, .int .i64 ns, .int .i64 env, .int .i64 fds, .str cwd, .lst nt, .str status, .lst wt, .bool alone]] [] K = (
  br (notB (eqI state 1)) (
    br (notB (eqI state 2)) (
      br (notB (eqI state 3)) (
        K (V.bool false) []) (rf_vc_1 nx gp xs id parent state ns env fds user name cwd status nt wt alone I J K)) (rf_vc_1 nx gp xs id parent state ns env fds user name cwd status nt wt alone I J K)) (rf_vc_1 nx gp xs id parent state ns env fds user name cwd status nt wt alone I J K)) := by kernel_rfl

def rr_vc_1 [MaxL] (nx gp : Int) (xs : List (List V)) (I : qcC → qcX → qcX → Nat → Prop) (J : qdC → qdX → qdX → Nat → Prop) (K : V → List Bk → Prop) (m11 : Nat) (x10 : (qcL I).X) : Prop :=
  (
                              ((qcC.mk [[V.int IntKind.i64 nx, V.int IntKind.i64 gp, V.lst xs]] (lenL xs) : (qcL I).C) = qcC.mk [[V.int IntKind.i64 nx, V.int IntKind.i64 gp, V.lst xs]] (lenL xs)) ∧ (
                              ∃ m'31 : Nat, (((m'31 : Nat) < m11)) ∧ (
                              I (qcC.mk [[V.int IntKind.i64 nx, V.int IntKind.i64 gp, V.lst xs]] (lenL xs)) (qcX.mk 0) (qcX.mk (addI IntKind.i64 x10.1 1)) m'31)))
theorem rr_vc [MaxL] (nx gp : Int) (xs : List (List V)) (I : qcC → qcX → qcX → Nat → Prop) (J : qdC → qdX → qdX → Nat → Prop) (K : V → List Bk → Prop) : vcF Tryz.prog cfgE (ctOf [(42, fieldsCon)]) (lpOf [(5, qcL I), (11, qdL J)]) 12 [.agg [.int .i64 nx, .int .i64 gp, .lst xs]] [] K = (
  br (ltI (lenL xs) 1) (
    K (V.bool false) []) (
    br (ltI 64 (lenL xs)) (
      K (V.bool false) []) (
      need (andB true (ltI 0 (lenL xs))) (
      need (okRow xs 0 13) (
      ∃ n7 : Int, ((sub (rowAt xs 0) 0 1 : Option (List V)) = some [V.int IntKind.i64 n7]) ∧ (
      br (notB (eqI n7 1)) (
        K (V.bool false) []) (
        need (andB true (ltI 0 (lenL xs))) (
        need (okRow xs 0 13) (
        ∃ n8 : Int, ((sub (rowAt xs 0) 1 1 : Option (List V)) = some [V.int IntKind.i64 n8]) ∧ (
        br (notB (eqI n8 0)) (
          K (V.bool false) []) (
          need (andB (leI 0 (subI IntKind.i64 (lenL xs) 1)) (ltI (subI IntKind.i64 (lenL xs) 1) (lenL xs))) (
          need (okRow xs (subI IntKind.i64 (lenL xs) 1).toNat 13) (
          ∃ n9 : Int, ((sub (rowAt xs (subI IntKind.i64 (lenL xs) 1)) 0 1 : Option (List V)) = some [V.int IntKind.i64 n9]) ∧ (
          br (leI nx n9) (
            K (V.bool false) []) (
            br (ltI 1048576 nx) (
              K (V.bool false) []) (
              br (ltI gp 2) (
                K (V.bool false) []) (
                br (ltI 1099511627777 gp) (
                  K (V.bool false) []) (
                  (∃ m10 : Nat, (((m10 : Nat) < 18446744073709551616)) ∧ (
                  I (qcC.mk [[V.int IntKind.i64 nx, V.int IntKind.i64 gp, V.lst xs]] (lenL xs)) (qcX.mk 0) (qcX.mk 0) m10)) ∧ (
                  ∀ x10 : (qcL I).X, ∀ m11 : Nat, (I (qcC.mk [[V.int IntKind.i64 nx, V.int IntKind.i64 gp, V.lst xs]] (lenL xs)) (qcX.mk 0) x10 m11) → (
                  br (ltI x10.1 (lenL xs)) (
                    need (andB (leI 0 x10.1) (ltI x10.1 (lenL xs))) (
                    need (okRow xs x10.1.toNat 13) (
                    ∃ n12 : Int, ∃ n13 : Int, ∃ n14 : Int, ∃ s15 : List UInt8, ∃ s16 : List UInt8, ∃ n17 : Int, ∃ n18 : Int, ∃ n19 : Int, ∃ s20 : List UInt8, ∃ xs21 : List (List V), ∃ s22 : List UInt8, ∃ xs23 : List (List V), ∃ b24 : Bool, ((sub (rowAt xs x10.1) 0 13 : Option (List V)) = some [V.int IntKind.i64 n12, V.int IntKind.i64 n13, V.int IntKind.i64 n14, V.str s15, V.str s16, V.int IntKind.i64 n17, V.int IntKind.i64 n18, V.int IntKind.i64 n19, V.str s20, V.lst xs21, V.str s22, V.lst xs23, V.bool b24]) ∧ (
                    ∃ p25 : Proc, (([V.int IntKind.i64 n12, V.int IntKind.i64 n13, V.int IntKind.i64 n14, V.str s15, V.str s16, V.int IntKind.i64 n17, V.int IntKind.i64 n18, V.int IntKind.i64 n19, V.str s20, V.lst xs21, V.str s22, V.lst xs23, V.bool b24] : List V) = [V.int IntKind.i64 p25.1, V.int IntKind.i64 p25.2, V.int IntKind.i64 p25.3, V.str p25.4, V.str p25.5, V.int IntKind.i64 p25.6, V.int IntKind.i64 p25.7, V.int IntKind.i64 p25.8, V.str p25.9, V.lst (strV p25.10), V.str p25.11, V.lst (waitV p25.12), V.bool p25.13]) ∧ (
                    (fit1 p25) ∧ (
                    ∀ b26 : Bool, (fieldsP b26 p25) → (
                    br (notB b26) (
                      K (V.bool false) []) (
                      (∃ m27 : Nat, (((m27 : Nat) < 18446744073709551616)) ∧ (
                      J (qdC.mk [[V.int IntKind.i64 nx, V.int IntKind.i64 gp, V.lst xs]] (lenL xs) x10.1) (qdX.mk (eqI x10.1 0) 0) (qdX.mk (eqI x10.1 0) 0) m27)) ∧ (
                      ∀ x27 : (qdL J).X, ∀ m28 : Nat, (J (qdC.mk [[V.int IntKind.i64 nx, V.int IntKind.i64 gp, V.lst xs]] (lenL xs) x10.1) (qdX.mk (eqI x10.1 0) 0) x27 m28) → (
                      br (ltI x27.2 x10.1) (
                        br (x27.1) (
                          ((qdC.mk [[V.int IntKind.i64 nx, V.int IntKind.i64 gp, V.lst xs]] (lenL xs) x10.1 : (qdL J).C) = qdC.mk [[V.int IntKind.i64 nx, V.int IntKind.i64 gp, V.lst xs]] (lenL xs) x10.1) ∧ (
                          ∃ m'29 : Nat, (((m'29 : Nat) < m28)) ∧ (
                          J (qdC.mk [[V.int IntKind.i64 nx, V.int IntKind.i64 gp, V.lst xs]] (lenL xs) x10.1) (qdX.mk (eqI x10.1 0) 0) (qdX.mk true (addI IntKind.i64 x27.2 1)) m'29))) (
                          need (andB (leI 0 x27.2) (ltI x27.2 (lenL xs))) (
                          need (okRow xs x27.2.toNat 13) (
                          ∃ n29 : Int, ((sub (rowAt xs x27.2) 0 1 : Option (List V)) = some [V.int IntKind.i64 n29]) ∧ (
                          need (andB (leI 0 x10.1) (ltI x10.1 (lenL xs))) (
                          need (okRow xs x10.1.toNat 13) (
                          ∃ n30 : Int, ((sub (rowAt xs x10.1) 1 1 : Option (List V)) = some [V.int IntKind.i64 n30]) ∧ (
                          ((qdC.mk [[V.int IntKind.i64 nx, V.int IntKind.i64 gp, V.lst xs]] (lenL xs) x10.1 : (qdL J).C) = qdC.mk [[V.int IntKind.i64 nx, V.int IntKind.i64 gp, V.lst xs]] (lenL xs) x10.1) ∧ (
                          ∃ m'31 : Nat, (((m'31 : Nat) < m28)) ∧ (
                          J (qdC.mk [[V.int IntKind.i64 nx, V.int IntKind.i64 gp, V.lst xs]] (lenL xs) x10.1) (qdX.mk (eqI x10.1 0) 0) (qdX.mk (eqI n29 n30) (addI IntKind.i64 x27.2 1)) m'31)))))))))) (
                        br (notB x27.1) (
                          K (V.bool false) []) (
                          br (ltI 0 x10.1) (
                            need (andB (leI 0 x10.1) (ltI x10.1 (lenL xs))) (
                            need (okRow xs x10.1.toNat 13) (
                            ∃ n29 : Int, ((sub (rowAt xs x10.1) 0 1 : Option (List V)) = some [V.int IntKind.i64 n29]) ∧ (
                            need (andB (leI 0 (subI IntKind.i64 x10.1 1)) (ltI (subI IntKind.i64 x10.1 1) (lenL xs))) (
                            need (okRow xs (subI IntKind.i64 x10.1 1).toNat 13) (
                            ∃ n30 : Int, ((sub (rowAt xs (subI IntKind.i64 x10.1 1)) 0 1 : Option (List V)) = some [V.int IntKind.i64 n30]) ∧ (
                            br (leI n29 n30) (
                              K (V.bool false) []) (rr_vc_1 nx gp xs I J K m11 x10)))))))) (rr_vc_1 nx gp xs I J K m11 x10))))))))))))) (
                    K (V.bool true) []))))))))))))))))))))) := by kernel_rfl

end Go.Proofs.YthhpdnlfhofanaaGreatDoor
namespace Go.Proofs.YthhpdnlfhofanaaGreatDoor
open Go.RowKit
set_option maxRecDepth 100000
set_option linter.unusedVariables false
set_option linter.unusedSimpArgs false
def qaI (n : Nat) (x : qaX) (m : Nat) : Prop := ∃ k : Nat, x = ⟨(k : Int)⟩ ∧ k + m = n
def qbI (n : Nat) (x : qbX) (m : Nat) : Prop := ∃ k : Nat, x = ⟨(k : Int)⟩ ∧ k + m = n
theorem rf_con [MaxL] {n : Nat} (hn : 4 ≤ n) : ConOk (evalF Tryz.prog cfgE n) 42 fieldsCon := by
  intro vs bs K h
  unfold fieldsCon at h
  split at h
  · rename_i nx gp xs r
    obtain ⟨p, rfl, hp, h⟩ := h
    unfold fit1 Proc.fit at hp
    obtain ⟨f1, f2, f3, f4, f5, f6, f7, f8, f9, ⟨f10, _⟩, f11, ⟨f12, _⟩, _⟩ := hp
    simp only [Proc.v]
    refine run_of (lp := lpOf [(9, qaL fun _ _ x m => qaI p.notes.length x m), (14, qbL fun _ _ x m => qbI p.waits.length x m)]) (by omega)
      (ct := ctOf [(119, vuCon), (120, vpCon), (121, inlC Tryz.prog cfgE (ctOf []) 121), (122, ceCon), (123, inlC Tryz.prog cfgE (ctOf []) 123)])
      (fun q hq => ctOf_ok (ctOf_cons (vu_con (by omega)) (ctOf_cons (vp_con (by omega)) (ctOf_cons (inl_ok (by omega) fun _ _ => noCt_ok _) (ctOf_cons (ce_con (by omega)) (ctOf_cons (inl_ok (by omega) fun _ _ => noCt_ok _) (ctOf_nil _))))))) ?_
    rw [rf_vc]
    have no : K (.bool false) [] := h false (fun e => by cases e)
    have main : rf_vc_2 nx gp xs p.id p.parent p.state p.ns p.env p.fds p.user p.name p.cwd p.status (strV p.notes) (waitV p.waits) p.alone (fun _ _ x m => qaI p.notes.length x m) (fun _ _ x m => qbI p.waits.length x m) K := by
      unfold rf_vc_2
      simp only [strV_lenL, waitV_lenL]
      rw [br_iff]; refine ⟨fun _ => ?_, fun _ => no⟩
      rw [br_iff]; refine ⟨fun _ => no, fun _ => ?_⟩
      rw [br_iff]; refine ⟨fun _ => ?_, fun _ => no⟩
      rw [br_iff]; refine ⟨fun _ => no, fun _ => ?_⟩
      rw [br_iff]; refine ⟨fun _ => ?_, fun _ => no⟩
      rw [br_iff]; refine ⟨fun _ => no, fun _ => ?_⟩
      rw [br_iff]; refine ⟨fun _ => no, fun _ => ?_⟩
      refine ⟨by omega, fun t e => ?_⟩
      rw [br_iff]; refine ⟨fun _ => no, fun _ => ?_⟩
      rw [br_iff]; refine ⟨fun _ => no, fun _ => ?_⟩
      rw [br_iff]; refine ⟨fun hz => ?_, fun _ => no⟩
      rw [need_iff]; refine ⟨hz, ?_⟩
      rw [br_iff]; refine ⟨fun _ => no, fun _ => ?_⟩
      rw [br_iff]; refine ⟨fun _ => no, fun g1 => ?_⟩
      rw [br_iff]; refine ⟨fun _ => no, fun g2 => ?_⟩
      have g1 : p.notes.length ≤ 8 := by simp only [br_iff, need_iff, andB_t, andB_f, orB_t, orB_f, notB_t, notB_f, leI_t, leI_f, ltI_t, ltI_f, eqI_t, eqI_f, leN_t, leN_f, eqN_t, eqN_f, eqS_t, eqS_f, eqB_t, eqB_f, catOk_t, leC_t] at g1; omega
      have g2 : p.waits.length ≤ 64 := by simp only [br_iff, need_iff, andB_t, andB_f, orB_t, orB_f, notB_t, notB_f, leI_t, leI_f, ltI_t, ltI_f, eqI_t, eqI_f, leN_t, leN_f, eqN_t, eqN_f, eqS_t, eqS_f, eqB_t, eqB_f, catOk_t, leC_t] at g2; omega
      refine ⟨⟨p.notes.length, by omega, 0, rfl, by omega⟩, ?_⟩
      rintro _ m ⟨k, rfl, hk⟩
      dsimp only
      rw [br_iff]; refine ⟨fun hlt => ?_, fun _ => ?_⟩
      · have hlt : k < p.notes.length := by simp only [br_iff, need_iff, andB_t, andB_f, orB_t, orB_f, notB_t, notB_f, leI_t, leI_f, ltI_t, ltI_f, eqI_t, eqI_f, leN_t, leN_f, eqN_t, eqN_f, eqS_t, eqS_f, eqB_t, eqB_f, catOk_t, leC_t] at hlt; omega
        obtain ⟨a, ga⟩ : ∃ a, p.notes[k]? = some a := ⟨_, List.getElem?_eq_getElem hlt⟩
        rw [need_iff]; refine ⟨by simp only [br_iff, need_iff, andB_t, andB_f, orB_t, orB_f, notB_t, notB_f, leI_t, leI_f, ltI_t, ltI_f, eqI_t, eqI_f, leN_t, leN_f, eqN_t, eqN_f, eqS_t, eqS_f, eqB_t, eqB_f, catOk_t, leC_t]; omega, ?_⟩
        rw [need_iff]; refine ⟨by simpa using strV_ok hlt, ?_⟩
        refine ⟨a, by rw [strV_row ga]; rfl, ?_⟩
        rw [br_iff]; refine ⟨fun _ => no, fun _ => ?_⟩
        exact ⟨by trivial, m - 1, by omega, k + 1, by rw [addI_i64 (by omega) (by omega)]; rfl, by omega⟩
      · refine ⟨⟨p.waits.length, by omega, 0, rfl, by omega⟩, ?_⟩
        rintro _ m ⟨k, rfl, hk⟩
        dsimp only
        rw [br_iff]; refine ⟨fun hlt => ?_, fun _ => h true fun _ => ⟨g1, g2⟩⟩
        have hlt : k < p.waits.length := by simp only [br_iff, need_iff, andB_t, andB_f, orB_t, orB_f, notB_t, notB_f, leI_t, leI_f, ltI_t, ltI_f, eqI_t, eqI_f, leN_t, leN_f, eqN_t, eqN_f, eqS_t, eqS_f, eqB_t, eqB_f, catOk_t, leC_t] at hlt; omega
        obtain ⟨a, ga⟩ : ∃ a, p.waits[k]? = some a := ⟨_, List.getElem?_eq_getElem hlt⟩
        have hin : andB (leI 0 (k : Int)) (ltI (k : Int) (p.waits.length : Int)) = true := by simp only [br_iff, need_iff, andB_t, andB_f, orB_t, orB_f, notB_t, notB_f, leI_t, leI_f, ltI_t, ltI_f, eqI_t, eqI_f, leN_t, leN_f, eqN_t, eqN_f, eqS_t, eqS_f, eqB_t, eqB_f, catOk_t, leC_t]; omega
        have hok : okRow (waitV p.waits) (k : Int).toNat 2 = true := by simpa using waitV_ok hlt
        simp only [hin, hok, need_tt]
        refine ⟨a.id, by rw [waitV_row ga]; rfl, ?_⟩
        rw [br_iff]; refine ⟨fun _ => no, fun _ => ?_⟩
        refine ⟨a.id, by rw [waitV_row ga]; rfl, ?_⟩
        rw [br_iff]; refine ⟨fun _ => no, fun _ => ?_⟩
        refine ⟨a.status, by rw [waitV_row ga]; rfl, ?_⟩
        rw [br_iff]; refine ⟨fun _ => no, fun _ => ?_⟩
        exact ⟨by trivial, m - 1, by omega, k + 1, by rw [addI_i64 (by omega) (by omega)]; rfl, by omega⟩
    have mid : rf_vc_1 nx gp xs p.id p.parent p.state p.ns p.env p.fds p.user p.name p.cwd p.status (strV p.notes) (waitV p.waits) p.alone (fun _ _ x m => qaI p.notes.length x m) (fun _ _ x m => qbI p.waits.length x m) K := by
      unfold rf_vc_1
      intro b
      rw [br_iff]; refine ⟨fun _ => no, fun _ => ?_⟩
      rw [br_iff]; refine ⟨fun _ => ⟨by omega, fun c => ?_⟩, fun _ => main⟩
      rw [br_iff]; exact ⟨fun _ => no, fun _ => main⟩
    rw [br_iff]; refine ⟨fun _ => ?_, fun _ => mid⟩
    rw [br_iff]; refine ⟨fun _ => ?_, fun _ => mid⟩
    rw [br_iff]; exact ⟨fun _ => no, fun _ => mid⟩
  · exact h.elim
/-- What is known of the first processes of a table. -/
def okT (l : List Proc) (k : Nat) : Prop := (∀ (a : Nat) (p : Proc), l[a]? = some p → a < k → p.notes.length ≤ 8 ∧ p.waits.length ≤ 64) ∧ (∀ (a b : Nat) (p q : Proc), l[a]? = some p → l[b]? = some q → a < b → b < k → p.id < q.id)
theorem okT_succ {l : List Proc} {k : Nat} {p : Proc} (h : okT l k) (hp : l[k]? = some p) (hs : p.notes.length ≤ 8 ∧ p.waits.length ≤ 64) (hlast : ∀ q, 0 < k → l[k - 1]? = some q → q.id < p.id) : okT l (k + 1) := by
  refine ⟨fun a q ha hlt => ?_, fun a b q r ha hb hab hlt => ?_⟩
  · rcases Nat.lt_or_ge a k with h1 | h1
    · exact h.1 a q ha h1
    · obtain rfl : a = k := by omega
      obtain rfl := Option.some.inj (hp.symm.trans ha)
      exact hs
  · rcases Nat.lt_or_ge b k with h1 | h1
    · exact h.2 a b q r ha hb hab h1
    · obtain rfl : b = k := by omega
      obtain rfl := Option.some.inj (hp.symm.trans hb)
      have hbl : b < l.length := (List.getElem?_eq_some_iff.1 hb).1
      obtain ⟨z, hz⟩ : ∃ z, l[b - 1]? = some z := ⟨_, List.getElem?_eq_getElem (by omega)⟩
      have h2 := hlast z (by omega) hz
      rcases Nat.lt_or_ge a (b - 1) with h3 | h3
      · have := h.2 a (b - 1) q z ha hz h3 (by omega)
        omega
      · obtain rfl : a = b - 1 := by omega
        obtain rfl := Option.some.inj (hz.symm.trans ha)
        exact h2
def qcI (l : List Proc) (x : qcX) (m : Nat) : Prop := ∃ k : Nat, x = ⟨(k : Int)⟩ ∧ k + m = l.length ∧ okT l k
def qdI (i : Int) (x : qdX) (m : Nat) : Prop := ∃ (j : Nat) (f : Bool), x = ⟨f, (j : Int)⟩ ∧ (j : Int) + m = i
def rightCon : Con := fun vs bs K => match vs, bs with
  | [.agg [.int .i64 nx, .int .i64 gp, .lst xs]], [] => ∃ l : List Proc, xs = procV l ∧ l.length ≤ 70 ∧ fitP l ∧ ∀ b : Bool, (b = true → rightP nx l) → K (.bool b) []
  | _, _ => False
theorem rt_con [MaxL] {n : Nat} (hn : 5 ≤ n) : ConOk (evalF Tryz.prog cfgE n) 12 rightCon := by
  intro vs bs K h
  unfold rightCon at h
  split at h
  · rename_i nx gp xs
    obtain ⟨l, rfl, hl70, hfit, h⟩ := h
    refine run_of (lp := lpOf [(5, qcL fun _ _ x m => qcI l x m), (11, qdL fun c _ x m => qdI c.i x m)]) (by omega)
      (ct := ctOf [(42, fieldsCon)]) (fun q hq => ctOf_ok (ctOf_cons (rf_con (by omega)) (ctOf_nil _))) ?_
    rw [rr_vc]
    have no : K (.bool false) [] := h false (fun e => by cases e)
    simp only [procV_lenL]
    rw [br_iff]; refine ⟨fun _ => no, fun g1 => ?_⟩
    rw [br_iff]; refine ⟨fun _ => no, fun g2 => ?_⟩
    have g1 : 0 < l.length := by simp only [br_iff, need_iff, andB_t, andB_f, orB_t, orB_f, notB_t, notB_f, leI_t, leI_f, ltI_t, ltI_f, eqI_t, eqI_f, leN_t, leN_f, eqN_t, eqN_f, eqS_t, eqS_f, eqB_t, eqB_f, catOk_t, leC_t] at g1; omega
    have g2 : l.length ≤ 64 := by simp only [br_iff, need_iff, andB_t, andB_f, orB_t, orB_f, notB_t, notB_f, leI_t, leI_f, ltI_t, ltI_f, eqI_t, eqI_f, leN_t, leN_f, eqN_t, eqN_f, eqS_t, eqS_f, eqB_t, eqB_f, catOk_t, leC_t] at g2; omega
    obtain ⟨p0, h0⟩ : ∃ p, l[0]? = some p := ⟨_, List.getElem?_eq_getElem g1⟩
    obtain ⟨pl, hpl⟩ : ∃ p, l[l.length - 1]? = some p := ⟨_, List.getElem?_eq_getElem (by omega)⟩
    have r0 : rowAt (procV l) 0 = p0.v := procV_row (i := 0) h0
    have i0 : andB true (ltI 0 (l.length : Int)) = true := by simp only [br_iff, need_iff, andB_t, andB_f, orB_t, orB_f, notB_t, notB_f, leI_t, leI_f, ltI_t, ltI_f, eqI_t, eqI_f, leN_t, leN_f, eqN_t, eqN_f, eqS_t, eqS_f, eqB_t, eqB_f, catOk_t, leC_t, andB_tt]; omega
    have o0 : okRow (procV l) 0 13 = true := procV_ok g1
    have es : subI .i64 (l.length : Int) 1 = ((l.length - 1 : Nat) : Int) := by rw [subI_i64 (by omega) (by omega)]; omega
    simp only [i0, o0, r0, need_tt, es]
    refine ⟨p0.id, rfl, ?_⟩
    rw [br_iff]; refine ⟨fun _ => no, fun g3 => ?_⟩
    have g3 : p0.id = 1 := by simpa [notB, eqI] using g3
    refine ⟨p0.parent, rfl, ?_⟩
    rw [br_iff]; refine ⟨fun _ => no, fun _ => ?_⟩
    rw [need_iff]; refine ⟨by simp only [br_iff, need_iff, andB_t, andB_f, orB_t, orB_f, notB_t, notB_f, leI_t, leI_f, ltI_t, ltI_f, eqI_t, eqI_f, leN_t, leN_f, eqN_t, eqN_f, eqS_t, eqS_f, eqB_t, eqB_f, catOk_t, leC_t]; omega, ?_⟩
    rw [need_iff]; refine ⟨by simpa using procV_ok (l := l) (i := l.length - 1) (by omega), ?_⟩
    refine ⟨pl.id, by rw [procV_row hpl]; rfl, ?_⟩
    rw [br_iff]; refine ⟨fun _ => no, fun g4 => ?_⟩
    rw [br_iff]; refine ⟨fun _ => no, fun g5 => ?_⟩
    rw [br_iff]; refine ⟨fun _ => no, fun _ => ?_⟩
    rw [br_iff]; refine ⟨fun _ => no, fun _ => ?_⟩
    simp only [br_iff, need_iff, andB_t, andB_f, orB_t, orB_f, notB_t, notB_f, leI_t, leI_f, ltI_t, ltI_f, eqI_t, eqI_f, leN_t, leN_f, eqN_t, eqN_f, eqS_t, eqS_f, eqB_t, eqB_f, catOk_t, leC_t] at g4 g5
    refine ⟨⟨l.length, by omega, 0, rfl, by omega, fun a p _ h => by omega, fun a b p q _ _ _ h => by omega⟩, ?_⟩
    rintro _ m ⟨k, rfl, hk, hT⟩
    dsimp only
    rw [br_iff]; refine ⟨fun hlt => ?_, fun hge => ?_⟩
    · have hlt : k < l.length := by simp only [br_iff, need_iff, andB_t, andB_f, orB_t, orB_f, notB_t, notB_f, leI_t, leI_f, ltI_t, ltI_f, eqI_t, eqI_f, leN_t, leN_f, eqN_t, eqN_f, eqS_t, eqS_f, eqB_t, eqB_f, catOk_t, leC_t] at hlt; omega
      obtain ⟨p, hp⟩ : ∃ p, l[k]? = some p := ⟨_, List.getElem?_eq_getElem hlt⟩
      have ik : andB (leI 0 (k : Int)) (ltI (k : Int) (l.length : Int)) = true := by simp only [br_iff, need_iff, andB_t, andB_f, orB_t, orB_f, notB_t, notB_f, leI_t, leI_f, ltI_t, ltI_f, eqI_t, eqI_f, leN_t, leN_f, eqN_t, eqN_f, eqS_t, eqS_f, eqB_t, eqB_f, catOk_t, leC_t]; omega
      have ok : okRow (procV l) (k : Int).toNat 13 = true := by simpa using procV_ok (l := l) (i := k) hlt
      simp only [ik, ok, need_tt]
      refine ⟨p.id, p.parent, p.state, p.user, p.name, p.ns, p.env, p.fds, p.cwd, strV p.notes, p.status, waitV p.waits, p.alone, by rw [procV_row hp]; rfl, p, rfl, hfit p (List.mem_of_getElem? hp), fun b hb => ?_⟩
      rw [br_iff]; refine ⟨fun _ => no, fun gb => ?_⟩
      have hs := hb (by simpa [notB] using gb)
      refine ⟨⟨k, by omega, 0, _, rfl, by omega⟩, ?_⟩
      rintro _ m2 ⟨j, f, rfl, hj⟩
      dsimp only at hj ⊢
      rw [br_iff]; refine ⟨fun hjk => ?_, fun _ => ?_⟩
      · have hjk : j < k := by simp only [br_iff, need_iff, andB_t, andB_f, orB_t, orB_f, notB_t, notB_f, leI_t, leI_f, ltI_t, ltI_f, eqI_t, eqI_f, leN_t, leN_f, eqN_t, eqN_f, eqS_t, eqS_f, eqB_t, eqB_f, catOk_t, leC_t] at hjk; omega
        obtain ⟨q, hq⟩ : ∃ q, l[j]? = some q := ⟨_, List.getElem?_eq_getElem (by omega)⟩
        have ha : addI .i64 (j : Int) 1 = ((j + 1 : Nat) : Int) := by rw [addI_i64 (by omega) (by omega)]; rfl
        rw [br_iff]; refine ⟨fun _ => ?_, fun _ => ?_⟩
        · exact ⟨by trivial, m2 - 1, by omega, j + 1, true, by rw [ha], by omega⟩
        · rw [need_iff]; refine ⟨by simp only [br_iff, need_iff, andB_t, andB_f, orB_t, orB_f, notB_t, notB_f, leI_t, leI_f, ltI_t, ltI_f, eqI_t, eqI_f, leN_t, leN_f, eqN_t, eqN_f, eqS_t, eqS_f, eqB_t, eqB_f, catOk_t, leC_t]; omega, ?_⟩
          rw [need_iff]; refine ⟨by simpa using procV_ok (l := l) (i := j) (by omega), ?_⟩
          refine ⟨q.id, by rw [procV_row hq]; rfl, p.parent, by rw [procV_row hp]; rfl, ?_⟩
          exact ⟨by trivial, m2 - 1, by omega, j + 1, _, by rw [ha], by omega⟩
      · have fin : (∀ q, 0 < k → l[k - 1]? = some q → q.id < p.id) → rr_vc_1 nx gp (procV l) (fun _ _ x m => qcI l x m) (fun c _ x m => qdI c.i x m) K m ⟨(k : Int)⟩ := by
          intro hlast
          unfold rr_vc_1
          exact ⟨by trivial, m - 1, by omega, k + 1, by show qcX.mk (addI .i64 (k : Int) 1) = _; rw [addI_i64 (by omega) (by omega)]; rfl, by omega, okT_succ hT hp hs hlast⟩
        rw [br_iff]; refine ⟨fun _ => no, fun _ => ?_⟩
        rw [br_iff]; refine ⟨fun hk0 => ?_, fun hk0 => fin fun q h => by simp only [br_iff, need_iff, andB_t, andB_f, orB_t, orB_f, notB_t, notB_f, leI_t, leI_f, ltI_t, ltI_f, eqI_t, eqI_f, leN_t, leN_f, eqN_t, eqN_f, eqS_t, eqS_f, eqB_t, eqB_f, catOk_t, leC_t] at hk0; omega⟩
        have hk0 : 0 < k := by simp only [br_iff, need_iff, andB_t, andB_f, orB_t, orB_f, notB_t, notB_f, leI_t, leI_f, ltI_t, ltI_f, eqI_t, eqI_f, leN_t, leN_f, eqN_t, eqN_f, eqS_t, eqS_f, eqB_t, eqB_f, catOk_t, leC_t] at hk0; omega
        have es2 : subI .i64 (k : Int) 1 = ((k - 1 : Nat) : Int) := by rw [subI_i64 (by omega) (by omega)]; omega
        obtain ⟨z, hz⟩ : ∃ z, l[k - 1]? = some z := ⟨_, List.getElem?_eq_getElem (by omega)⟩
        refine ⟨p.id, by rw [procV_row hp]; rfl, ?_⟩
        rw [es2]
        rw [need_iff]; refine ⟨by simp only [br_iff, need_iff, andB_t, andB_f, orB_t, orB_f, notB_t, notB_f, leI_t, leI_f, ltI_t, ltI_f, eqI_t, eqI_f, leN_t, leN_f, eqN_t, eqN_f, eqS_t, eqS_f, eqB_t, eqB_f, catOk_t, leC_t]; omega, ?_⟩
        rw [need_iff]; refine ⟨by simpa using procV_ok (l := l) (i := k - 1) (by omega), ?_⟩
        refine ⟨z.id, by rw [procV_row hz]; rfl, ?_⟩
        rw [br_iff]; refine ⟨fun _ => no, fun gl => fin fun q _ hq => ?_⟩
        obtain rfl := Option.some.inj (hz.symm.trans hq)
        simp only [br_iff, need_iff, andB_t, andB_f, orB_t, orB_f, notB_t, notB_f, leI_t, leI_f, ltI_t, ltI_f, eqI_t, eqI_f, leN_t, leN_f, eqN_t, eqN_f, eqS_t, eqS_f, eqB_t, eqB_f, catOk_t, leC_t] at gl
        omega
    · obtain rfl : k = l.length := by simp only [br_iff, need_iff, andB_t, andB_f, orB_t, orB_f, notB_t, notB_f, leI_t, leI_f, ltI_t, ltI_f, eqI_t, eqI_f, leN_t, leN_f, eqN_t, eqN_f, eqS_t, eqS_f, eqB_t, eqB_f, catOk_t, leC_t] at hge; omega
      refine h true fun _ => ⟨g1, g2, fun p hp => ?_, fun p hp => ?_, fun a b p q ha hb hab => hT.2 a b p q ha hb hab (List.getElem?_eq_some_iff.1 hb).1⟩
      · obtain ⟨a, ha⟩ := List.getElem?_of_mem hp
        exact hT.1 a p ha (List.getElem?_eq_some_iff.1 ha).1
      · obtain ⟨a, ha⟩ := List.getElem?_of_mem hp
        have hal := (List.getElem?_eq_some_iff.1 ha).1
        constructor
        · rcases Nat.eq_zero_or_pos a with rfl | hpos
          · obtain rfl := Option.some.inj (h0.symm.trans ha); omega
          · have := hT.2 0 a p0 p h0 ha hpos hal; omega
        · rcases Nat.lt_or_ge a (l.length - 1) with h1 | h1
          · have := hT.2 a _ p pl ha hpl h1 (by omega); omega
          · obtain rfl : a = l.length - 1 := by omega
            obtain rfl := Option.some.inj (hpl.symm.trans ha); omega
  · exact h.elim
end Go.Proofs.YthhpdnlfhofanaaGreatDoor
