/- The shell's values: the condition of PartsValues. -/
import Derived.Test.YthhpdnlfhofanaaGreatDoorPvExp
import Derived.Test.YthhpdnlfhofanaaGreatDoorPtWin
namespace Go.Proofs.YthhpdnlfhofanaaGreatDoor
open Go.RowKit
set_option maxRecDepth 100000
set_option linter.unusedVariables false
set_option linter.unusedSimpArgs false
structure paC where
  nm : List UInt8
  xs : List (List V)
  p : Bool
  cnt : Int
structure paX where
  t : List UInt8
  i : Int
def paSt (c : paC) (x : paX) : St := ⟨[(0, .str c.nm), (1, .lst c.xs), (5, .str x.t), (6, .bool c.p), (42, .int .i64 c.cnt), (43, .int .i64 x.i)], []⟩
set_option maxHeartbeats 4000000 in
def paUn (s : St) : Option (paC × paX) :=
  match s with
  | ⟨[(q0, .str nm), (q1, .lst xs), (q2, .str t), (q3, .bool p), (q4, .int .i64 cnt), (q5, .int .i64 i)], []⟩ => bif Nat.beq q0 0 && Nat.beq q1 1 && Nat.beq q2 5 && Nat.beq q3 6 && Nat.beq q4 42 && Nat.beq q5 43 then some (⟨nm, xs, p, cnt⟩, ⟨t, i⟩) else none
  | _ => none
set_option maxHeartbeats 4000000 in
def paL (inv : paC → paX → paX → Nat → Prop) : LoopS where
  C := paC
  X := paX
  st := paSt
  un := paUn
  ok := by
    intro s c x h
    unfold paUn at h
    split at h
    · simp only [Bool.cond_eq_ite] at h
      split at h
      · rename_i hg
        simp only [Bool.and_eq_true, Nat.beq_eq] at hg
        obtain ⟨⟨⟨⟨⟨rfl, rfl⟩, rfl⟩, rfl⟩, rfl⟩, rfl⟩ := hg
        cases h
        rfl
      · cases h
    · cases h
  inv := inv

structure pbC where
  nm : List UInt8
  xs : List (List V)
  t : List UInt8
  cnt : Int
structure pbX where
  p : Bool
  i : Int
def pbSt (c : pbC) (x : pbX) : St := ⟨[(0, .str c.nm), (1, .lst c.xs), (5, .str c.t), (6, .bool x.p), (65, .int .i64 c.cnt), (66, .int .i64 x.i)], []⟩
set_option maxHeartbeats 4000000 in
def pbUn (s : St) : Option (pbC × pbX) :=
  match s with
  | ⟨[(q0, .str nm), (q1, .lst xs), (q2, .str t), (q3, .bool p), (q4, .int .i64 cnt), (q5, .int .i64 i)], []⟩ => bif Nat.beq q0 0 && Nat.beq q1 1 && Nat.beq q2 5 && Nat.beq q3 6 && Nat.beq q4 65 && Nat.beq q5 66 then some (⟨nm, xs, t, cnt⟩, ⟨p, i⟩) else none
  | _ => none
set_option maxHeartbeats 4000000 in
def pbL (inv : pbC → pbX → pbX → Nat → Prop) : LoopS where
  C := pbC
  X := pbX
  st := pbSt
  un := pbUn
  ok := by
    intro s c x h
    unfold pbUn at h
    split at h
    · simp only [Bool.cond_eq_ite] at h
      split at h
      · rename_i hg
        simp only [Bool.and_eq_true, Nat.beq_eq] at hg
        obtain ⟨⟨⟨⟨⟨rfl, rfl⟩, rfl⟩, rfl⟩, rfl⟩, rfl⟩ := hg
        cases h
        rfl
      · cases h
    · cases h
  inv := inv

noncomputable def nt1 [MaxL] : Con := inlC Tryz.prog cfgN (ctOf [(66, inlC Tryz.prog cfgN (ctOf []) 66)]) 21

def pv_vc_5 [MaxL] (nm : List UInt8) (xs : List (List V)) (I : paC → paX → paX → Nat → Prop) (J : pbC → pbX → pbX → Nat → Prop) (K : V → List Bk → Prop) (x6 : (paL I).X) (m9 : Nat) (x8 : (pbL J).X) : Prop :=
  (
                      ((pbC.mk nm xs x6.1 (lenS nm) : (pbL J).C) = pbC.mk nm xs x6.1 (lenS nm)) ∧ (
                      ∃ m'10 : Nat, (((m'10 : Nat) < m9)) ∧ (
                      J (pbC.mk nm xs x6.1 (lenS nm)) (pbX.mk true 0) (pbX.mk true (addI IntKind.i64 x8.2 1)) m'10)))
def pv_vc_4 [MaxL] (nm : List UInt8) (xs : List (List V)) (I : paC → paX → paX → Nat → Prop) (J : pbC → pbX → pbX → Nat → Prop) (K : V → List Bk → Prop) (x8 : (pbL J).X) (x6 : (paL I).X) (m9 : Nat) : Prop :=
  (
                              br (eqI (atS nm x8.2) 95) (pv_vc_5 nm xs I J K x6 m9 x8) (
                                ((pbC.mk nm xs x6.1 (lenS nm) : (pbL J).C) = pbC.mk nm xs x6.1 (lenS nm)) ∧ (
                                ∃ m'10 : Nat, (((m'10 : Nat) < m9)) ∧ (
                                J (pbC.mk nm xs x6.1 (lenS nm)) (pbX.mk true 0) (pbX.mk (eqI (atS nm x8.2) 42) (addI IntKind.i64 x8.2 1)) m'10))))
def pv_vc_3 [MaxL] (nm : List UInt8) (xs : List (List V)) (I : paC → paX → paX → Nat → Prop) (J : pbC → pbX → pbX → Nat → Prop) (K : V → List Bk → Prop) (x8 : (pbL J).X) (x6 : (paL I).X) (m9 : Nat) : Prop :=
  (
                          br (leI 48 (atS nm x8.2)) (
                            br (leI (atS nm x8.2) 57) (pv_vc_5 nm xs I J K x6 m9 x8) (pv_vc_4 nm xs I J K x8 x6 m9)) (pv_vc_4 nm xs I J K x8 x6 m9))
def pv_vc_2 [MaxL] (nm : List UInt8) (xs : List (List V)) (I : paC → paX → paX → Nat → Prop) (J : pbC → pbX → pbX → Nat → Prop) (K : V → List Bk → Prop) (x8 : (pbL J).X) (x6 : (paL I).X) (m9 : Nat) : Prop :=
  (
                      br (leI 65 (atS nm x8.2)) (
                        br (leI (atS nm x8.2) 90) (pv_vc_5 nm xs I J K x6 m9 x8) (pv_vc_3 nm xs I J K x8 x6 m9)) (pv_vc_3 nm xs I J K x8 x6 m9))
def pv_vc_1 [MaxL] (nm : List UInt8) (xs : List (List V)) (I : paC → paX → paX → Nat → Prop) (J : pbC → pbX → pbX → Nat → Prop) (K : V → List Bk → Prop) : Prop :=
  (
          br (ltI 300 (lenL xs)) (
            K (V.bool true) []) (
            (∃ m6 : Nat, (((m6 : Nat) < 18446744073709551616)) ∧ (
            I (paC.mk nm xs true (lenL xs)) (paX.mk [] 0) (paX.mk [] 0) m6)) ∧ (
            ∀ x6 : (paL I).X, ∀ m7 : Nat, (I (paC.mk nm xs true (lenL xs)) (paX.mk [] 0) x6 m7) → (
            br (ltI x6.2 (lenL xs)) (
              need (andB (leI 0 x6.2) (ltI x6.2 (lenL xs))) (
              need (okRow xs x6.2.toNat 1) (
              ∃ s8 : List UInt8, ((sub (rowAt xs x6.2) 0 1 : Option (List V)) = some [V.str s8]) ∧ (
              br (ltI 100 (lenS s8)) (
                K (V.bool true) []) (
                br (ltI 0 x6.2) (
                  need (catOk x6.1 [32]) (
                  need (andB (leI 0 x6.2) (ltI x6.2 (lenL xs))) (
                  need (okRow xs x6.2.toNat 1) (
                  ∃ s9 : List UInt8, ((sub (rowAt xs x6.2) 0 1 : Option (List V)) = some [V.str s9]) ∧ (
                  need (catOk (catS x6.1 [32]) s9) (
                  ((paC.mk nm xs true (lenL xs) : (paL I).C) = paC.mk nm xs true (lenL xs)) ∧ (
                  ∃ m'10 : Nat, (((m'10 : Nat) < m7)) ∧ (
                  I (paC.mk nm xs true (lenL xs)) (paX.mk [] 0) (paX.mk (catS (catS x6.1 [32]) s9) (addI IntKind.i64 x6.2 1)) m'10)))))))) (
                  need (andB (leI 0 x6.2) (ltI x6.2 (lenL xs))) (
                  need (okRow xs x6.2.toNat 1) (
                  ∃ s9 : List UInt8, ((sub (rowAt xs x6.2) 0 1 : Option (List V)) = some [V.str s9]) ∧ (
                  need (catOk x6.1 s9) (
                  ((paC.mk nm xs true (lenL xs) : (paL I).C) = paC.mk nm xs true (lenL xs)) ∧ (
                  ∃ m'10 : Nat, (((m'10 : Nat) < m7)) ∧ (
                  I (paC.mk nm xs true (lenL xs)) (paX.mk [] 0) (paX.mk (catS x6.1 s9) (addI IntKind.i64 x6.2 1)) m'10)))))))))))) (
              (∃ m8 : Nat, (((m8 : Nat) < 18446744073709551616)) ∧ (
              J (pbC.mk nm xs x6.1 (lenS nm)) (pbX.mk true 0) (pbX.mk true 0) m8)) ∧ (
              ∀ x8 : (pbL J).X, ∀ m9 : Nat, (J (pbC.mk nm xs x6.1 (lenS nm)) (pbX.mk true 0) x8 m9) → (
              br (ltI x8.2 (lenS nm)) (
                need (andB (leI 0 x8.2) (ltI x8.2 (lenS nm))) (
                br (x8.1) (
                  br (leI 97 (atS nm x8.2)) (
                    br (leI (atS nm x8.2) 122) (pv_vc_5 nm xs I J K x6 m9 x8) (pv_vc_2 nm xs I J K x8 x6 m9)) (pv_vc_2 nm xs I J K x8 x6 m9)) (
                  ((pbC.mk nm xs x6.1 (lenS nm) : (pbL J).C) = pbC.mk nm xs x6.1 (lenS nm)) ∧ (
                  ∃ m'10 : Nat, (((m'10 : Nat) < m9)) ∧ (
                  J (pbC.mk nm xs x6.1 (lenS nm)) (pbX.mk true 0) (pbX.mk false (addI IntKind.i64 x8.2 1)) m'10))))) (
                ∃ l10 : List (List UInt8), ((xs : List (List V)) = strV l10) ∧ (
                (((l10.length : Nat) ≤ 300)) ∧ (
                (longL l10 100) ∧ (
                (((nm.length : Nat) ≤ 1000)) ∧ (
                br (notB (eqI (setF (pbC.mk (paC.mk nm xs true (lenL xs)).nm (paC.mk nm xs true (lenL xs)).xs x6.t (lenS (paC.mk nm xs true (lenL xs)).nm)).nm l10).2 0)) (
                  K (V.bool true) []) (
                  ∃ nx11 : Int, ∃ E12 : Ev, (([[V.int IntKind.i64 1, V.int IntKind.i64 (newE (setF (pbC.mk (paC.mk nm xs true (lenL xs)).nm (paC.mk nm xs true (lenL xs)).xs x6.t (lenS (paC.mk nm xs true (lenL xs)).nm)).nm l10).1), V.lst (varV (setF (pbC.mk (paC.mk nm xs true (lenL xs)).nm (paC.mk nm xs true (lenL xs)).xs x6.t (lenS (paC.mk nm xs true (lenL xs)).nm)).nm l10).1)]] : List (List V)) = [[V.int IntKind.i64 1, V.int IntKind.i64 nx11, V.lst (varV E12)]]) ∧ (
                  (smallE E12) ∧ (
                  (((nm.length : Nat) ≤ 1000)) ∧ (
                  (longL (valF E12 nm) 100) ∧ (
                  ((((valF E12 nm).length : Nat) ≤ 300)) ∧ (
                  (kindOk 2) ∧ (
                  ∃ nx13 : Int, ∃ E14 : Ev, (([[V.int IntKind.i64 1, V.int IntKind.i64 (newE (setF (pbC.mk (paC.mk nm xs true (lenL xs)).nm (paC.mk nm xs true (lenL xs)).xs x6.t (lenS (paC.mk nm xs true (lenL xs)).nm)).nm l10).1), V.lst (varV (setF (pbC.mk (paC.mk nm xs true (lenL xs)).nm (paC.mk nm xs true (lenL xs)).xs x6.t (lenS (paC.mk nm xs true (lenL xs)).nm)).nm l10).1)]] : List (List V)) = [[V.int IntKind.i64 1, V.int IntKind.i64 nx13, V.lst (varV E14)]]) ∧ (
                  (smallE E14) ∧ (
                  (((nm.length : Nat) ≤ 1000)) ∧ (
                  (longL (valF E14 nm) 100) ∧ (
                  ((((valF E14 nm).length : Nat) ≤ 300)) ∧ (
                  (kindOk 3) ∧ (
                  ∃ l15 : List (List UInt8), ∃ l'16 : List (List UInt8), ((strV (wdF 2 E12 nm) : List (List V)) = strV l15) ∧ (
                  ((xs : List (List V)) = strV l'16) ∧ (
                  (((l15.length : Nat) ≤ 1000)) ∧ (
                  (((l'16.length : Nat) ≤ 1000)) ∧ (
                  br (notB (decide (l15 = l'16))) (
                    K (V.bool false) []) (
                    need (inI64 (lenL xs) && true) (
                    ∃ l17 : List (List UInt8), ∃ l'18 : List (List UInt8), (([[V.str (textN 10 (Int.ofNat (valF E14 nm).length))]] : List (List V)) = strV l17) ∧ (
                    (([[V.str (textN 10 (lenL xs))]] : List (List V)) = strV l'18) ∧ (
                    (((l17.length : Nat) ≤ 1000)) ∧ (
                    (((l'18.length : Nat) ≤ 1000)) ∧ (
                    br (notB (decide (l17 = l'18))) (
                      K (V.bool false) []) (
                      need (catOk [60, 36] nm) (
                      need (catOk (60 :: 36 :: nm) [62]) (
                      ∃ nx19 : Int, ∃ E20 : Ev, (([[V.int IntKind.i64 1, V.int IntKind.i64 (newE (setF (pbC.mk (paC.mk nm xs true (lenL xs)).nm (paC.mk nm xs true (lenL xs)).xs x6.t (lenS (paC.mk nm xs true (lenL xs)).nm)).nm l10).1), V.lst (varV (setF (pbC.mk (paC.mk nm xs true (lenL xs)).nm (paC.mk nm xs true (lenL xs)).xs x6.t (lenS (paC.mk nm xs true (lenL xs)).nm)).nm l10).1)]] : List (List V)) = [[V.int IntKind.i64 1, V.int IntKind.i64 nx19, V.lst (varV E20)]]) ∧ (
                      (smallE E20) ∧ (
                      ((((60 :: 36 :: catS nm [62]).length : Nat) ≤ 1000)) ∧ (
                      br (notB x8.1) (
                        K (V.bool true) []) (
                        br (eqI (hereF E20 ((catS (catS (ByteArray.mk #[60, 36]).data.toList (pbC.mk (paC.mk nm xs true (lenL xs)).nm (paC.mk nm xs true (lenL xs)).xs x6.t (lenS (paC.mk nm xs true (lenL xs)).nm)).nm) (ByteArray.mk #[62]).data.toList).length + 1) (catS (catS (ByteArray.mk #[60, 36]).data.toList (pbC.mk (paC.mk nm xs true (lenL xs)).nm (paC.mk nm xs true (lenL xs)).xs x6.t (lenS (paC.mk nm xs true (lenL xs)).nm)).nm) (ByteArray.mk #[62]).data.toList) []).2 0) (
                          need (catOk [60] x6.1) (
                          need (catOk (60 :: x6.1) [62]) (
                          br (eqS (hereF E20 ((catS (catS (ByteArray.mk #[60, 36]).data.toList (pbC.mk (paC.mk nm xs true (lenL xs)).nm (paC.mk nm xs true (lenL xs)).xs x6.t (lenS (paC.mk nm xs true (lenL xs)).nm)).nm) (ByteArray.mk #[62]).data.toList).length + 1) (catS (catS (ByteArray.mk #[60, 36]).data.toList (pbC.mk (paC.mk nm xs true (lenL xs)).nm (paC.mk nm xs true (lenL xs)).xs x6.t (lenS (paC.mk nm xs true (lenL xs)).nm)).nm) (ByteArray.mk #[62]).data.toList) []).1 (60 :: catS x6.1 [62])) (
                            K (V.bool true) []) (
                            K (V.bool false) [])))) (
                          K (V.bool false) [])))))))))))))))))))))))))))))))))))))))))))
theorem pv_vc [MaxL] (nm : List UInt8) (xs : List (List V)) (I : paC → paX → paX → Nat → Prop) (J : pbC → pbX → pbX → Nat → Prop) (K : V → List Bk → Prop) : vcF Tryz.prog cfgN (ctOf [(7, okCon), (17, cpCon), (18, setCon), (19, wdCon), (20, txCon), (21, nt1), (22, hereCon)]) (lpOf [(5, paL I), (14, pbL J)]) 5 [.str nm, .lst xs] [] K = (
  br (ltI 100 (lenS nm)) (
    K (V.bool true) []) (
    br (eqS nm []) (
      K (V.bool true) []) (
      need (andB true (ltI 0 (lenS nm))) (
      br (leI 48 (atS nm 0)) (
        need (andB true (ltI 0 (lenS nm))) (
        br (leI (atS nm 0) 57) (
          K (V.bool true) []) (pv_vc_1 nm xs I J K))) (pv_vc_1 nm xs I J K))))) := by kernel_rfl

end Go.Proofs.YthhpdnlfhofanaaGreatDoor
namespace Go.Proofs.YthhpdnlfhofanaaGreatDoor
open Go.RowKit
set_option maxRecDepth 100000
set_option linter.unusedVariables false
set_option linter.unusedSimpArgs false
theorem join_next {l : List (List UInt8)} {k : Nat} {a : List UInt8} (sep : List UInt8) (h : l[k + 1]? = some a) : Lib.join (l.take (k + 2)) sep = Lib.join (l.take (k + 1)) sep ++ sep ++ a := by
  cases l with
  | nil => simp at h
  | cons x r =>
    rw [List.take_succ_cons, List.take_succ_cons, Lib.join_cons, Lib.join_cons, Lib.joinTail_take_succ sep r k a (by simpa using h)]
    simp [List.append_assoc]
theorem join_first {l : List (List UInt8)} {a : List UInt8} (sep : List UInt8) (h : l[0]? = some a) : Lib.join (l.take 1) sep = a := by
  cases l with
  | nil => simp at h
  | cons x r =>
    obtain rfl : x = a := by simpa using h
    rw [List.take_succ_cons, List.take_zero, Lib.join_one]
theorem digit_first : ((List.range 257).all fun v => match textN 10 (v : Int) with | c :: _ => decide (48 ≤ c.toNat) && decide (c.toNat ≤ 57) | [] => false) = true := by kernel_rfl
theorem numB_digit {nm : List UInt8} (h : numB nm = true) : 48 ≤ atS nm 0 ∧ atS nm 0 ≤ 57 := by
  obtain ⟨h1, h2, h3⟩ := numB_ge h
  have := List.all_eq_true.1 digit_first (numV nm).toNat (List.mem_range.2 (by omega))
  rw [Int.toNat_of_nonneg (by omega), h3] at this
  cases nm with
  | nil => cases this
  | cons c r =>
    simp only [Bool.and_eq_true, decide_eq_true_eq] at this
    simp only [atS]
    constructor <;> simp <;> omega
theorem valF_set {nm : List UInt8} {l : List (List UInt8)} (hn : numB nm = false) (h0 : (setF nm l).2 = 0) : valF (setF nm l).1 nm = l := by
  unfold valF
  rw [if_neg (by rw [hn]; decide)]
  unfold setF at *
  split
  · rename_i g; rw [if_pos g] at h0; cases h0
  · rename_i g
    rw [if_neg g] at h0
    split
    · rename_i g2; simp [getF, g2]
    · rename_i g2
      rw [if_neg g2] at h0
      split
      · simp [getF]
      · rename_i g3; rw [if_neg g3] at h0; exact absurd h0 g3
theorem setF_small {nm : List UInt8} {l : List (List UInt8)} (h1 : l.length ≤ 300) (h2 : longL l 100) : smallE (setF nm l).1 := by
  intro n q h
  unfold setF at h
  split at h
  · cases h
  split at h
  · cases h
  split at h
  · cases h; exact ⟨h1, h2⟩
  · cases h
def plainL (s : List UInt8) : Bool := s.all fun c => nmB (c.toNat : Int)
theorem index36 : ∀ (s : List UInt8), plainL s = true → Lib.index (s ++ [62]) [36] = -1
  | [], _ => by decide
  | c :: s, h => by
    have h' : nmB (c.toNat : Int) = true ∧ plainL s = true := by simpa [plainL] using h
    have hc : ¬ (36 : UInt8) = c := by rintro rfl; exact absurd h'.1 (by decide)
    rw [List.cons_append, Lib.index, index36 s h'.2]
    simp [hc]
theorem here_plain {nm : List UInt8} {l : List (List UInt8)} {E : Ev} (hp : plainL nm = true) (hne : nm ≠ []) (hv : valF E nm = l) (h1 : l.length ≤ 300) (h2 : longL l 100) :
    hereF E ((60 :: 36 :: (nm ++ [62])).length + 1) (60 :: 36 :: (nm ++ [62])) [] = (60 :: (Lib.join l [32] ++ [62]), 0) := by
  have hcut : Lib.cut (60 :: 36 :: (nm ++ [62])) [36] = ([60], nm ++ [62], true) := by
    have : Lib.index (60 :: 36 :: (nm ++ [62])) [36] = 1 := by rw [Lib.index, Lib.index]; simp
    unfold Lib.cut
    rw [this]; simp
  have hA : cutA (60 :: 36 :: (nm ++ [62])) [36] = [60] := by unfold cutA; rw [hcut]
  have hB : cutB (60 :: 36 :: (nm ++ [62])) [36] = nm ++ [62] := by unfold cutB; rw [hcut]
  have hC : cutC (60 :: 36 :: (nm ++ [62])) [36] = true := by unfold cutC; rw [hcut]
  have hs : scanF (nm ++ [62]) = nm.length := scanF_stop _ _ (by rw [List.take_left]; exact hp) (.inr ⟨62, by simp, by decide⟩)
  have hpre : ¬ hpF (nm ++ [62]) [36] = true := by
    cases nm with
    | nil => exact absurd rfl hne
    | cons c r =>
      have hc : nmB (c.toNat : Int) = true := by
        have : nmB (c.toNat : Int) = true ∧ plainL r = true := by simpa [plainL] using hp
        exact this.1
      have hc : ¬ (36 : UInt8) = c := by rintro rfl; exact absurd hc (by decide)
      simp [hpF, Lib.hasPrefix, hc]
  have hl : ¬ nm.length = 0 := fun e => hne (List.length_eq_zero_iff.1 e)
  have hj := join_le h2 (sep := [32]) rfl
  have hj2 : l.length * (100 + 1) ≤ 300 * 101 := Nat.mul_le_mul h1 (by omega)
  obtain ⟨k, hk⟩ : ∃ k, (60 :: 36 :: (nm ++ [62])).length = k + 1 := ⟨nm.length + 2, by simp⟩
  rw [hk]
  unfold hereF
  rw [if_neg (by simp), hC, if_neg (by decide), hB, if_neg hpre, hs, if_neg hl, hA, List.drop_left, List.take_left, hv]
  have ht : tpF [62] [94] = [62] := by decide
  rw [ht]
  unfold hereF
  have c1 : cutC [62] [36] = false := by decide
  have c2 : cutA [62] [36] = [62] := by decide
  rw [if_neg (by simp; omega), c1, if_pos rfl, c2]
  unfold hereEnd
  rw [if_neg (by simp; omega)]
  simp
theorem cp_con [MaxL] {n : Nat} (hn : 10 ≤ n) : ConOk (evalF Tryz.prog cfgN n) 17 cpCon := by
  intro vs bs K h
  unfold cpCon at h
  split at h
  · obtain ⟨k, rfl⟩ : ∃ k, n = k + 10 := ⟨n - 10, by omega⟩
    exact ⟨_, _, (by kernel_rfl : evalF Tryz.prog cfgN (k + 10) 17 [.lst [], .int .i64 0, .int .i64 1] [] = some (.tup [.lst [[.int .i64 1, .int .i64 2, .lst []]], .int .i64 0], [])), h⟩
  · exact h.elim
theorem nt_ok [MaxL] {n : Nat} (hn : 2 ≤ n) : ConOk (evalF Tryz.prog cfgN n) 21 nt1 := inl_ok (by omega) fun k hk => ctOf_ok (ctOf_cons (inl_ok (by omega) fun _ _ => noCt_ok _) (ctOf_nil _))
theorem values_says [MaxL] (nm : List UInt8) (l : List (List UInt8)) : Says 5 [.str nm, .lst (strV l)] := by
  refine run_of (lp := lpOf [(5, paL fun _ _ x m => ∃ k : Nat, x = ⟨Lib.join (l.take k) [32], (k : Int)⟩ ∧ k + m = l.length ∧ ∀ s ∈ l.take k, s.length ≤ 100), (14, pbL fun _ _ x m => ∃ k : Nat, x = ⟨plainL (nm.take k), (k : Int)⟩ ∧ k + m = nm.length)]) (by omega)
    (ct := ctOf [(7, okCon), (17, cpCon), (18, setCon), (19, wdCon), (20, txCon), (21, nt1), (22, hereCon)])
    (fun k hk => ctOf_ok (ctOf_cons (ok_con (by omega)) (ctOf_cons (cp_con (by omega)) (ctOf_cons (st_con (by omega)) (ctOf_cons (w_con (by omega)) (ctOf_cons (tx_con (by omega)) (ctOf_cons (nt_ok (by omega)) (ctOf_cons (he_con (by omega)) (ctOf_nil _))))))))) ?_
  rw [pv_vc]
  have tt : (V.bool true = V.bool true ∧ ([] : List Bk) = []) := ⟨rfl, rfl⟩
  rw [br_iff]; refine ⟨fun _ => by simp, fun g1 => ?_⟩
  rw [br_iff]; refine ⟨fun _ => by simp, fun g2 => ?_⟩
  have g1 : nm.length ≤ 100 := by simp only [br_iff, need_iff, andB_t, andB_f, orB_t, orB_f, notB_t, notB_f, leI_t, leI_f, ltI_t, ltI_f, eqI_t, eqI_f, leN_t, leN_f, eqN_t, eqN_f, eqS_t, eqS_f, eqB_t, eqB_f, catOk_t, leC_t, lenS] at g1; omega
  have g2 : nm ≠ [] := by simpa only [br_iff, need_iff, andB_t, andB_f, orB_t, orB_f, notB_t, notB_f, leI_t, leI_f, ltI_t, ltI_f, eqI_t, eqI_f, leN_t, leN_f, eqN_t, eqN_f, eqS_t, eqS_f, eqB_t, eqB_f, catOk_t, leC_t] using g2
  have hpos : 0 < nm.length := List.length_pos_iff.2 g2
  have main : ¬ (48 ≤ atS nm 0 ∧ atS nm 0 ≤ 57) → pv_vc_1 nm (strV l) (fun _ _ x m => ∃ k : Nat, x = ⟨Lib.join (l.take k) [32], (k : Int)⟩ ∧ k + m = l.length ∧ ∀ s ∈ l.take k, s.length ≤ 100) (fun _ _ x m => ∃ k : Nat, x = ⟨plainL (nm.take k), (k : Int)⟩ ∧ k + m = nm.length) (fun v out => v = .bool true ∧ out = []) := fun hd => by
    have hnum : numB nm = false := by
      cases hq : numB nm with
      | false => rfl
      | true => exact absurd (numB_digit hq) hd
    unfold pv_vc_1
    rw [br_iff]; refine ⟨fun _ => by simp, fun g3 => ?_⟩
    have g3 : l.length ≤ 300 := by simp only [br_iff, need_iff, andB_t, andB_f, orB_t, orB_f, notB_t, notB_f, leI_t, leI_f, ltI_t, ltI_f, eqI_t, eqI_f, leN_t, leN_f, eqN_t, eqN_f, eqS_t, eqS_f, eqB_t, eqB_f, catOk_t, leC_t, strV_lenL] at g3; omega
    simp only [strV_lenL]
    refine ⟨⟨l.length, by omega, 0, rfl, by omega, by simp⟩, ?_⟩
    rintro _ m ⟨k, rfl, hk, hp⟩
    dsimp only
    have hjl := join_le (l := l.take k) (n := 100) (sep := [32]) hp rfl
    have hjl2 : (l.take k).length * (100 + 1) ≤ 300 * 101 := Nat.mul_le_mul (by rw [List.length_take]; omega) (by omega)
    rw [br_iff]
    refine ⟨fun hlt => ?_, fun hge => ?_⟩
    · have hlt : k < l.length := by simp only [br_iff, need_iff, andB_t, andB_f, orB_t, orB_f, notB_t, notB_f, leI_t, leI_f, ltI_t, ltI_f, eqI_t, eqI_f, leN_t, leN_f, eqN_t, eqN_f, eqS_t, eqS_f, eqB_t, eqB_f, catOk_t, leC_t] at hlt; omega
      have ga : l[k]? = some l[k] := List.getElem?_eq_getElem hlt
      generalize l[k] = a at ga
      have ra := strV_row ga
      have ka : okRow (strV l) (Int.toNat (k : Int)) 1 = true := by simpa using strV_ok (l := l) (i := k) hlt
      have na : andB (leI 0 (k : Int)) (ltI (k : Int) (l.length : Int)) = true := by simp only [br_iff, need_iff, andB_t, andB_f, orB_t, orB_f, notB_t, notB_f, leI_t, leI_f, ltI_t, ltI_f, eqI_t, eqI_f, leN_t, leN_f, eqN_t, eqN_f, eqS_t, eqS_f, eqB_t, eqB_f, catOk_t, leC_t]; omega
      rw [need_iff, need_iff]
      refine ⟨na, ka, ?_⟩
      try rw [ra]
      repeat apply Exists.intro
      refine ⟨rfl, ?_⟩
      rw [br_iff]; refine ⟨fun _ => by simp, fun g4 => ?_⟩
      have g4 : a.length ≤ 100 := by simp only [br_iff, need_iff, andB_t, andB_f, orB_t, orB_f, notB_t, notB_f, leI_t, leI_f, ltI_t, ltI_f, eqI_t, eqI_f, leN_t, leN_f, eqN_t, eqN_f, eqS_t, eqS_f, eqB_t, eqB_f, catOk_t, leC_t, lenS] at g4; omega
      have hnew : ∀ s ∈ l.take (k + 1), s.length ≤ 100 := fun s hs => by
        obtain ⟨g1, e⟩ := List.getElem?_eq_some_iff.1 ga
        rw [List.take_succ_eq_append_getElem g1, e] at hs
        rcases List.mem_append.1 hs with hs | hs
        · exact hp s hs
        · obtain rfl := List.mem_singleton.1 hs; exact g4
      rw [br_iff]; refine ⟨fun g5 => ?_, fun g5 => ?_⟩
      · obtain ⟨j, rfl⟩ : ∃ j, k = j + 1 := ⟨k - 1, by simp only [br_iff, need_iff, andB_t, andB_f, orB_t, orB_f, notB_t, notB_f, leI_t, leI_f, ltI_t, ltI_f, eqI_t, eqI_f, leN_t, leN_f, eqN_t, eqN_f, eqS_t, eqS_f, eqB_t, eqB_f, catOk_t, leC_t] at g5; omega⟩
        rw [need_iff]; refine ⟨by simp only [catOk_t, List.length_singleton]; omega, ?_⟩
        rw [need_iff, need_iff]
        refine ⟨na, ka, ?_⟩
        try rw [ra]
        repeat apply Exists.intro
        refine ⟨rfl, ?_⟩
        rw [need_iff]; refine ⟨by simp only [catOk_t, catS, List.length_append, List.length_singleton]; omega, by trivial, m - 1, by omega, j + 2, ?_, by omega, hnew⟩
        rw [join_next [32] ga, addI_i64 (by omega) (by omega)]
        rfl
      · obtain rfl : k = 0 := by simp only [br_iff, need_iff, andB_t, andB_f, orB_t, orB_f, notB_t, notB_f, leI_t, leI_f, ltI_t, ltI_f, eqI_t, eqI_f, leN_t, leN_f, eqN_t, eqN_f, eqS_t, eqS_f, eqB_t, eqB_f, catOk_t, leC_t] at g5; omega
        rw [need_iff, need_iff]
        refine ⟨na, ka, ?_⟩
        try rw [ra]
        repeat apply Exists.intro
        refine ⟨rfl, ?_⟩
        rw [need_iff]; refine ⟨by simp only [catOk_t]; omega, by trivial, m - 1, by omega, 1, ?_, by omega, hnew⟩
        rw [join_first [32] ga]
        rfl
    · have : k = l.length := by simp only [br_iff, need_iff, andB_t, andB_f, orB_t, orB_f, notB_t, notB_f, leI_t, leI_f, ltI_t, ltI_f, eqI_t, eqI_f, leN_t, leN_f, eqN_t, eqN_f, eqS_t, eqS_f, eqB_t, eqB_f, catOk_t, leC_t] at hge; omega
      subst this
      rw [List.take_length] at hp hjl hjl2 ⊢
      refine ⟨⟨nm.length, by omega, 0, rfl, by omega⟩, ?_⟩
      rintro _ m ⟨k, rfl, hk⟩
      dsimp only
      rw [br_iff]
      refine ⟨fun hlt => ?_, fun hge => ?_⟩
      · have hlt : k < nm.length := by simp only [br_iff, need_iff, andB_t, andB_f, orB_t, orB_f, notB_t, notB_f, leI_t, leI_f, ltI_t, ltI_f, eqI_t, eqI_f, leN_t, leN_f, eqN_t, eqN_f, eqS_t, eqS_f, eqB_t, eqB_f, catOk_t, leC_t, lenS] at hlt; omega
        have hn : andB (leI 0 (k : Int)) (ltI (k : Int) (lenS nm)) = true := by simp only [br_iff, need_iff, andB_t, andB_f, orB_t, orB_f, notB_t, notB_f, leI_t, leI_f, ltI_t, ltI_f, eqI_t, eqI_f, leN_t, leN_f, eqN_t, eqN_f, eqS_t, eqS_f, eqB_t, eqB_f, catOk_t, leC_t, lenS]; omega
        obtain ⟨c, gc⟩ : ∃ c, nm[k]? = some c := ⟨_, List.getElem?_eq_getElem hlt⟩
        rw [hn, need_tt]
        have es : plainL (nm.take (k + 1)) = (plainL (nm.take k) && nmB (c.toNat : Int)) := by
          obtain ⟨h1, rfl⟩ := List.getElem?_eq_some_iff.1 gc
          unfold plainL
          rw [List.take_succ_eq_append_getElem h1, List.all_append]
          simp
        have ea : addI .i64 (k : Int) 1 = ((k + 1 : Nat) : Int) := by rw [addI_i64 (by omega) (by omega)]; rfl
        rw [br_iff]; refine ⟨fun q0 => ?_, fun q0 => ⟨by trivial, m - 1, by omega, k + 1, by rw [es, q0, ea]; rfl, by omega⟩⟩
        have e5 : nmB (c.toNat : Int) = true → pv_vc_5 nm (strV l) (fun _ _ x m => ∃ k : Nat, x = ⟨Lib.join (l.take k) [32], (k : Int)⟩ ∧ k + m = l.length ∧ ∀ s ∈ l.take k, s.length ≤ 100) (fun _ _ x m => ∃ k : Nat, x = ⟨plainL (nm.take k), (k : Int)⟩ ∧ k + m = nm.length) (fun v out => v = .bool true ∧ out = []) ⟨Lib.join l [32], (l.length : Int)⟩ m ⟨plainL (nm.take k), (k : Int)⟩ := fun q => by
          unfold pv_vc_5
          exact ⟨by trivial, m - 1, by omega, k + 1, by rw [es, q0, q, ea]; rfl, by omega⟩
        have e4 : ¬ (97 ≤ (c.toNat : Int) ∧ (c.toNat : Int) ≤ 122) → ¬ (65 ≤ (c.toNat : Int) ∧ (c.toNat : Int) ≤ 90) → ¬ (48 ≤ (c.toNat : Int) ∧ (c.toNat : Int) ≤ 57) → pv_vc_4 nm (strV l) (fun _ _ x m => ∃ k : Nat, x = ⟨Lib.join (l.take k) [32], (k : Int)⟩ ∧ k + m = l.length ∧ ∀ s ∈ l.take k, s.length ≤ 100) (fun _ _ x m => ∃ k : Nat, x = ⟨plainL (nm.take k), (k : Int)⟩ ∧ k + m = nm.length) (fun v out => v = .bool true ∧ out = []) ⟨plainL (nm.take k), (k : Int)⟩ ⟨Lib.join l [32], (l.length : Int)⟩ m := fun h1 h2 h3 => by
          unfold pv_vc_4
          dsimp only
          rw [atS_get gc]
          rw [br_iff]; refine ⟨fun g => e5 (by simp only [br_iff, need_iff, andB_t, andB_f, orB_t, orB_f, notB_t, notB_f, leI_t, leI_f, ltI_t, ltI_f, eqI_t, eqI_f, leN_t, leN_f, eqN_t, eqN_f, eqS_t, eqS_f, eqB_t, eqB_f, catOk_t, leC_t] at g; unfold nmB; simp [g]), fun g => ⟨by trivial, m - 1, by omega, k + 1, ?_, by omega⟩⟩
          rw [es, q0, ea]
          congr 1
          simp only [br_iff, need_iff, andB_t, andB_f, orB_t, orB_f, notB_t, notB_f, leI_t, leI_f, ltI_t, ltI_f, eqI_t, eqI_f, leN_t, leN_f, eqN_t, eqN_f, eqS_t, eqS_f, eqB_t, eqB_f, catOk_t, leC_t] at g
          unfold nmB
          have w1 : (decide (97 ≤ (c.toNat : Int)) && decide ((c.toNat : Int) ≤ 122)) = false := by simp; omega
          have w2 : (decide (65 ≤ (c.toNat : Int)) && decide ((c.toNat : Int) ≤ 90)) = false := by simp; omega
          have w3 : (decide (48 ≤ (c.toNat : Int)) && decide ((c.toNat : Int) ≤ 57)) = false := by simp; omega
          simp [w1, w2, w3, g, eqI]
        have e3 : ¬ (97 ≤ (c.toNat : Int) ∧ (c.toNat : Int) ≤ 122) → ¬ (65 ≤ (c.toNat : Int) ∧ (c.toNat : Int) ≤ 90) → pv_vc_3 nm (strV l) (fun _ _ x m => ∃ k : Nat, x = ⟨Lib.join (l.take k) [32], (k : Int)⟩ ∧ k + m = l.length ∧ ∀ s ∈ l.take k, s.length ≤ 100) (fun _ _ x m => ∃ k : Nat, x = ⟨plainL (nm.take k), (k : Int)⟩ ∧ k + m = nm.length) (fun v out => v = .bool true ∧ out = []) ⟨plainL (nm.take k), (k : Int)⟩ ⟨Lib.join l [32], (l.length : Int)⟩ m := fun h1 h2 => by
          unfold pv_vc_3
          dsimp only
          rw [atS_get gc]
          rw [br_iff]; refine ⟨fun g => ?_, fun g => e4 h1 h2 (by simp only [br_iff, need_iff, andB_t, andB_f, orB_t, orB_f, notB_t, notB_f, leI_t, leI_f, ltI_t, ltI_f, eqI_t, eqI_f, leN_t, leN_f, eqN_t, eqN_f, eqS_t, eqS_f, eqB_t, eqB_f, catOk_t, leC_t] at g; omega)⟩
          rw [br_iff]; exact ⟨fun g2 => e5 (by simp only [br_iff, need_iff, andB_t, andB_f, orB_t, orB_f, notB_t, notB_f, leI_t, leI_f, ltI_t, ltI_f, eqI_t, eqI_f, leN_t, leN_f, eqN_t, eqN_f, eqS_t, eqS_f, eqB_t, eqB_f, catOk_t, leC_t] at g g2; unfold nmB; simp [g, g2]), fun g2 => e4 h1 h2 (by simp only [br_iff, need_iff, andB_t, andB_f, orB_t, orB_f, notB_t, notB_f, leI_t, leI_f, ltI_t, ltI_f, eqI_t, eqI_f, leN_t, leN_f, eqN_t, eqN_f, eqS_t, eqS_f, eqB_t, eqB_f, catOk_t, leC_t] at g2; omega)⟩
        have e2 : ¬ (97 ≤ (c.toNat : Int) ∧ (c.toNat : Int) ≤ 122) → pv_vc_2 nm (strV l) (fun _ _ x m => ∃ k : Nat, x = ⟨Lib.join (l.take k) [32], (k : Int)⟩ ∧ k + m = l.length ∧ ∀ s ∈ l.take k, s.length ≤ 100) (fun _ _ x m => ∃ k : Nat, x = ⟨plainL (nm.take k), (k : Int)⟩ ∧ k + m = nm.length) (fun v out => v = .bool true ∧ out = []) ⟨plainL (nm.take k), (k : Int)⟩ ⟨Lib.join l [32], (l.length : Int)⟩ m := fun h1 => by
          unfold pv_vc_2
          dsimp only
          rw [atS_get gc]
          rw [br_iff]; refine ⟨fun g => ?_, fun g => e3 h1 (by simp only [br_iff, need_iff, andB_t, andB_f, orB_t, orB_f, notB_t, notB_f, leI_t, leI_f, ltI_t, ltI_f, eqI_t, eqI_f, leN_t, leN_f, eqN_t, eqN_f, eqS_t, eqS_f, eqB_t, eqB_f, catOk_t, leC_t] at g; omega)⟩
          rw [br_iff]; exact ⟨fun g2 => e5 (by simp only [br_iff, need_iff, andB_t, andB_f, orB_t, orB_f, notB_t, notB_f, leI_t, leI_f, ltI_t, ltI_f, eqI_t, eqI_f, leN_t, leN_f, eqN_t, eqN_f, eqS_t, eqS_f, eqB_t, eqB_f, catOk_t, leC_t] at g g2; unfold nmB; simp [g, g2]), fun g2 => e3 h1 (by simp only [br_iff, need_iff, andB_t, andB_f, orB_t, orB_f, notB_t, notB_f, leI_t, leI_f, ltI_t, ltI_f, eqI_t, eqI_f, leN_t, leN_f, eqN_t, eqN_f, eqS_t, eqS_f, eqB_t, eqB_f, catOk_t, leC_t] at g2; omega)⟩
        rw [atS_get gc]
        rw [br_iff]; refine ⟨fun g => ?_, fun g => e2 (by simp only [br_iff, need_iff, andB_t, andB_f, orB_t, orB_f, notB_t, notB_f, leI_t, leI_f, ltI_t, ltI_f, eqI_t, eqI_f, leN_t, leN_f, eqN_t, eqN_f, eqS_t, eqS_f, eqB_t, eqB_f, catOk_t, leC_t] at g; omega)⟩
        rw [br_iff]; exact ⟨fun g2 => e5 (by simp only [br_iff, need_iff, andB_t, andB_f, orB_t, orB_f, notB_t, notB_f, leI_t, leI_f, ltI_t, ltI_f, eqI_t, eqI_f, leN_t, leN_f, eqN_t, eqN_f, eqS_t, eqS_f, eqB_t, eqB_f, catOk_t, leC_t] at g g2; unfold nmB; simp [g, g2]), fun g2 => e2 (by simp only [br_iff, need_iff, andB_t, andB_f, orB_t, orB_f, notB_t, notB_f, leI_t, leI_f, ltI_t, ltI_f, eqI_t, eqI_f, leN_t, leN_f, eqN_t, eqN_f, eqS_t, eqS_f, eqB_t, eqB_f, catOk_t, leC_t] at g2; omega)⟩
      · have : k = nm.length := by simp only [br_iff, need_iff, andB_t, andB_f, orB_t, orB_f, notB_t, notB_f, leI_t, leI_f, ltI_t, ltI_f, eqI_t, eqI_f, leN_t, leN_f, eqN_t, eqN_f, eqS_t, eqS_f, eqB_t, eqB_f, catOk_t, leC_t, lenS] at hge; omega
        subst this
        rw [List.take_length]
        refine ⟨l, rfl, g3, hp, by omega, ?_⟩
        rw [br_iff]; refine ⟨fun _ => by simp, fun g4 => ?_⟩
        have g4 : (setF nm l).2 = 0 := by simpa [notB, eqI] using g4
        have hv := valF_set hnum g4
        have hE := setF_small (nm := nm) g3 hp
        generalize (setF nm l).1 = E at hv hE ⊢
        have hw : wdF 2 E nm = l := hv
        refine ⟨_, E, rfl, hE, by omega, by rw [hv]; exact hp, by rw [hv]; exact g3, .inl rfl, ?_⟩
        refine ⟨_, E, rfl, hE, by omega, by rw [hv]; exact hp, by rw [hv]; exact g3, .inr rfl, ?_⟩
        refine ⟨_, l, rfl, rfl, by rw [hw]; omega, by omega, ?_⟩
        rw [br_iff]; refine ⟨fun g5 => absurd g5 (by rw [hw]; simp [notB]), fun _ => ?_⟩
        rw [need_iff]; refine ⟨by simp only [inI64, Bool.and_true, Bool.and_eq_true, decide_eq_true_eq]; omega, ?_⟩
        refine ⟨[_], [_], rfl, rfl, by simp, by simp, ?_⟩
        rw [br_iff]; refine ⟨fun g6 => absurd g6 (by rw [hv]; simp [notB]), fun _ => ?_⟩
        rw [need_iff]; refine ⟨by simp only [catOk_t, List.length_cons, List.length_nil]; omega, ?_⟩
        rw [need_iff]; refine ⟨by simp only [catOk_t, List.length_cons, List.length_nil]; omega, ?_⟩
        refine ⟨_, E, rfl, hE, by simp [catS]; omega, ?_⟩
        rw [br_iff]; refine ⟨fun _ => by simp, fun g7 => ?_⟩
        have g7 : plainL nm = true := by simpa [notB] using g7
        have e0 : catS (catS (ByteArray.mk #[60, 36]).data.toList nm) (ByteArray.mk #[62]).data.toList = 60 :: 36 :: (nm ++ [62]) := rfl
        simp only [e0]
        rw [here_plain g7 g2 hv g3 hp]
        rw [br_iff]; refine ⟨fun _ => ?_, fun g8 => absurd g8 (by simp [eqI])⟩
        rw [need_iff]; refine ⟨by simp only [catOk_t, List.length_cons, List.length_nil]; omega, ?_⟩
        rw [need_iff]; refine ⟨by simp only [catOk_t, List.length_cons, List.length_nil]; omega, ?_⟩
        rw [br_iff]; refine ⟨fun _ => by simp, fun g9 => ?_⟩
        simp [eqS, strEq, catS] at g9
  rw [need_iff]; refine ⟨by simp only [andB_tt, br_iff, need_iff, andB_t, andB_f, orB_t, orB_f, notB_t, notB_f, leI_t, leI_f, ltI_t, ltI_f, eqI_t, eqI_f, leN_t, leN_f, eqN_t, eqN_f, eqS_t, eqS_f, eqB_t, eqB_f, catOk_t, leC_t, lenS]; omega, ?_⟩
  rw [br_iff]; refine ⟨fun q1 => ?_, fun q1 => main (by simp only [br_iff, need_iff, andB_t, andB_f, orB_t, orB_f, notB_t, notB_f, leI_t, leI_f, ltI_t, ltI_f, eqI_t, eqI_f, leN_t, leN_f, eqN_t, eqN_f, eqS_t, eqS_f, eqB_t, eqB_f, catOk_t, leC_t] at q1; omega)⟩
  rw [need_iff]; refine ⟨by simp only [andB_tt, br_iff, need_iff, andB_t, andB_f, orB_t, orB_f, notB_t, notB_f, leI_t, leI_f, ltI_t, ltI_f, eqI_t, eqI_f, leN_t, leN_f, eqN_t, eqN_f, eqS_t, eqS_f, eqB_t, eqB_f, catOk_t, leC_t, lenS]; omega, ?_⟩
  rw [br_iff]; exact ⟨fun _ => by simp, fun q2 => main (by simp only [br_iff, need_iff, andB_t, andB_f, orB_t, orB_f, notB_t, notB_f, leI_t, leI_f, ltI_t, ltI_f, eqI_t, eqI_f, leN_t, leN_f, eqN_t, eqN_f, eqS_t, eqS_f, eqB_t, eqB_f, catOk_t, leC_t] at q2; omega)⟩
theorem strs_fits : ∀ {xs : List (List V)}, (∀ x ∈ xs, x.length = 1 ∧ Fits .str x) → ∃ l, xs = strV l
  | [], _ => ⟨[], rfl⟩
  | x :: t, h => by
    obtain ⟨l, rfl⟩ := strs_fits (xs := t) fun y hy => h y (List.mem_cons_of_mem _ hy)
    obtain ⟨_, s, rfl, _⟩ := h x (List.mem_cons_self ..)
    exact ⟨s :: l, rfl⟩
def pvSh : List Sh := [.str, .slice 16 1 .str]
theorem values_fits [MaxL] {us : List V} (h : FitsAll pvSh us) : Says 5 us := by
  obtain ⟨v0, r0, rfl, ⟨s, h0, hs⟩, v1, r1, rfl, ⟨xs, h1, _, hx⟩, rfl⟩ := h
  obtain rfl : v0 = .str s := by simpa using h0
  obtain rfl : v1 = .lst xs := by simpa using h1
  obtain ⟨l, rfl⟩ := strs_fits hx
  exact values_says s l
end Go.Proofs.YthhpdnlfhofanaaGreatDoor
