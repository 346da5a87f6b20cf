/- The evaluator's knobs for this program. -/
import Derived.Test.YtjilikmpfmifkaaDoorEvE
import Derived.Test.YtjilikmpfmifkaaDoorEvC
import Derived.Test.YtjilikmpfmifkaaDoorEvF
namespace Go.Proofs.YtjilikmpfmifkaaDoor
open Go.RowKit
/-- The live slots at the loops' heads. -/
def keepS : List (Nat × Nat × List Nat) := [(9, 4, [0, 8, 9]), (11, 4, [0, 8, 9, 10]), (12, 4, [0, 8, 9]), (15, 4, [0, 20, 21]), (16, 4, [0, 8, 9]),
  (19, 4, [0, 1, 12, 13]), (22, 4, [1, 200006, 200007, 100011, 12, 13]), (23, 4, [0, 1, 200006, 200007, 10, 11]), (24, 4, [0, 1, 12, 13]),
  (28, 4, [0, 8, 9, 10]), (29, 2, [0, 3]), (30, 2, [0, 1, 7, 8]), (31, 4, [0, 3]), (35, 3, [200003, 6, 7, 8]),
  (39, 2, [0, 1, 7, 8]), (46, 2, [0, 1, 5])]
def cfgN : Cfg where
  glob := glT
  rows := fun _ => none
  prim := fun f => bif Nat.beq f 44 then some fiPrim else bif Nat.beq f 38 then some hpPrim else none
  ref := fun f => has [39, 40, 37] f
  self := fun _ => false
  bstr := fun _ => false
  clone := fun f => Nat.beq f 36
  res := fun f => bif has [35] f then 2 else bif has [17, 20, 22, 18, 21, 23] f then 1 else 0
  keep := keepOf keepS
theorem cfgN_ok : CfgOk Tryd.prog cfgN where
  prim := fun f g e => by
    simp only [cfgN, Bool.cond_eq_ite] at e
    split at e
    · rename_i h
      have h := Nat.eq_of_beq_eq_true h
      subst h; cases e
      exact @fi_prim
    · split at e
      · rename_i h
        have h := Nat.eq_of_beq_eq_true h
        subst h; cases e
        exact @hp_prim _
      · cases e
  self := fun f e => by cases e
  clone := fun f e => by
    obtain rfl := Nat.eq_of_beq_eq_true e
    exact clone_fid
  bstr := fun f e => by cases e
theorem awake_ev {n : Nat} (h : 12 ≤ n) : evalF Tryd.prog cfgN n 10 [] [] = some (.bool true, []) := by
  obtain ⟨k, rfl⟩ : ∃ k, n = k + 12 := ⟨n - 12, by omega⟩
  kernel_rfl
end Go.Proofs.YtjilikmpfmifkaaDoor
namespace Go.Proofs.YtjilikmpfmifkaaDoor
open Go.RowKit
set_option maxRecDepth 100000
set_option linter.unusedVariables false
set_option linter.unusedSimpArgs false
structure dgC where
  b : Int
structure dgX where
  n : Int
  s : List UInt8
def dgSt (c : dgC) (x : dgX) : St := ⟨[(0, .int .i64 x.n), (1, .int .i64 c.b), (5, .str x.s)], []⟩
def dgUn (s : St) : Option (dgC × dgX) :=
  match s with
  | ⟨[(q0, .int .i64 n), (q1, .int .i64 b), (q2, .str s)], []⟩ => bif Nat.beq q0 0 && Nat.beq q1 1 && Nat.beq q2 5 then some (⟨b⟩, ⟨n, s⟩) else none
  | _ => none
def dgL (inv : dgC → dgX → dgX → Nat → Prop) : LoopS where
  C := dgC
  X := dgX
  st := dgSt
  un := dgUn
  ok := by
    intro s c x h
    unfold dgUn at h
    split at h
    · simp only [Bool.cond_eq_ite] at h
      split at h
      · rename_i hg
        simp only [Bool.and_eq_true, Nat.beq_eq] at hg
        obtain ⟨⟨rfl, rfl⟩, rfl⟩ := hg
        cases h
        rfl
      · cases h
    · cases h
  inv := inv

def dg_vc_1 (n b : Int) (I : dgC → dgX → dgX → Nat → Prop) (K : V → List Bk → Prop) (x4 : (dgL I).X) (m5 : Nat) : Prop :=
  (
    need (notB (eqI b 0)) (
    need (andB (leI 0 (addI IntKind.i64 (subI IntKind.i64 0 (x4.1.tmod b)) 1)) (leI (addI IntKind.i64 (subI IntKind.i64 0 (x4.1.tmod b)) 1) 16)) (
    need (andB (leI 0 (subI IntKind.i64 0 (x4.1.tmod b))) (leI (subI IntKind.i64 0 (x4.1.tmod b)) (addI IntKind.i64 (subI IntKind.i64 0 (x4.1.tmod b)) 1))) (
    need (catOk (cutS [48, 49, 50, 51, 52, 53, 54, 55, 56, 57, 97, 98, 99, 100, 101, 102] (subI IntKind.i64 0 (x4.1.tmod b)) (addI IntKind.i64 (subI IntKind.i64 0 (x4.1.tmod b)) 1)) x4.2) (
    need (notB (eqI b 0)) (
    ((dgC.mk b : (dgL I).C) = dgC.mk b) ∧ (
    ∃ m'6 : Nat, (m'6 < m5) ∧ (
    I (dgC.mk b) (dgX.mk n []) (dgX.mk (quoI IntKind.i64 x4.1 b) (catS (cutS [48, 49, 50, 51, 52, 53, 54, 55, 56, 57, 97, 98, 99, 100, 101, 102] (subI IntKind.i64 0 (x4.1.tmod b)) (addI IntKind.i64 (subI IntKind.i64 0 (x4.1.tmod b)) 1)) x4.2)) m'6))))))))
theorem dg_vc (n b : Int) (I : dgC → dgX → dgX → Nat → Prop) (K : V → List Bk → Prop) : vcF Tryd.prog cfgN (ctOf []) (lpOf [(2, dgL I)]) 46 [.int .i64 n, .int .i64 b] [] K = (
  (∃ m4 : Nat, (m4 < 18446744073709551616) ∧ (
  I (dgC.mk b) (dgX.mk n []) (dgX.mk n []) m4)) ∧ (
  ∀ x4 : (dgL I).X, ∀ m5 : Nat, (I (dgC.mk b) (dgX.mk n []) x4 m5) → (
  br (ltI x4.1 0) (dg_vc_1 n b I K x4 m5) (
    br (eqS x4.2 []) (dg_vc_1 n b I K x4 m5) (
      K (V.str x4.2) []))))) := by kernel_rfl

theorem digs_len (b : Nat) : ∀ (k u : Nat), (digs b k u).length ≤ k
  | 0, u => by simp [digs]
  | k + 1, u => by
    rcases Nat.lt_or_ge u b with h | h
    · rw [digs_lt h]; simp
    · rw [digs_ge h]
      have := digs_len b k (u / b)
      simp; omega
theorem hex_cut : ∀ d : Fin 16, cutS [48, 49, 50, 51, 52, 53, 54, 55, 56, 57, 97, 98, 99, 100, 101, 102] (d.val : Int) ((d.val + 1 : Nat) : Int) = [dgt d.val] := by decide +kernel
def dgI (b : Nat) (T : List UInt8) (x : dgX) (m : Nat) : Prop := ∃ (u f : Nat), x.n = -(u : Int) ∧ u ≤ 9223372036854775808 ∧ u < b ^ f ∧ 1 ≤ f ∧ m = u + (if x.s = [] then 1 else 0) ∧ (x.s = [] ∨ 0 < u → digs b f u ++ x.s = T) ∧ (x.s ≠ [] → u = 0 → x.s = T) ∧ x.s.length ≤ 64
theorem dg_step {b u f : Nat} (hb : 2 ≤ b) (hf : u < b ^ f) (hf1 : 1 ≤ f) {s T : List UInt8} (h : digs b f u ++ s = T) (hu : b ≤ u) : u / b < b ^ (f - 1) ∧ 1 ≤ f - 1 ∧ digs b (f - 1) (u / b) ++ dgt (u % b) :: s = T := by
  obtain ⟨g, rfl⟩ : ∃ g, f = g + 1 := ⟨f - 1, by omega⟩
  have h1 : u / b < b ^ g := by rw [Nat.div_lt_iff_lt_mul (by omega), ← Nat.pow_succ]; exact hf
  refine ⟨h1, ?_, ?_⟩
  · rcases Nat.eq_zero_or_pos g with rfl | h0
    · simp at hf; omega
    · exact h0
  · rw [digs_ge hu] at h
    rw [← h]; simp
theorem dg_run {n : Nat} (hn : 1 ≤ n) {a b : Int} (h1 : a ≤ 0) (h2 : -9223372036854775808 ≤ a) (h3 : 2 ≤ b) (h4 : b ≤ 16) : ∃ r out, evalF Tryd.prog cfgN n 46 [.int .i64 a, .int .i64 b] [] = some (r, out) ∧ r = .str (digs b.toNat 64 a.natAbs) ∧ out = [] := by
  obtain ⟨B, rfl⟩ : ∃ B : Nat, b = (B : Int) := ⟨b.toNat, by omega⟩
  refine run_of (lp := lpOf [(2, dgL fun _ _ x m => dgI B (digs B 64 a.natAbs) x m)]) hn (fun k _ => noCt_ok _) ?_
  rw [dg_vc]
  have hp : (9223372036854775808 : Nat) < 2 ^ 64 := by decide
  have hp2 : (2 : Nat) ^ 64 ≤ B ^ 64 := Nat.pow_le_pow_left (by omega) 64
  refine ⟨⟨a.natAbs + 1, by omega, a.natAbs, 64, (by simp only; omega), by omega, by omega, by omega, by simp, by simp, by simp, by simp⟩, ?_⟩
  rintro ⟨xn, s⟩ m ⟨u, f, rfl, hu, hf, hf1, hm, hT, hT0, hs⟩
  simp only at hm hT hT0 hs
  unfold dg_vc_1
  have hB : 0 < B := by omega
  have hmod : u % B < B := Nat.mod_lt _ hB
  have e1 : (-(u : Int)).tmod (B : Int) = -((u % B : Nat) : Int) := by rw [Int.neg_tmod]; rfl
  have e2 : subI .i64 0 (-((u % B : Nat) : Int)) = ((u % B : Nat) : Int) := by rw [subI_i64 (by omega) (by omega)]; omega
  have e3 : addI .i64 ((u % B : Nat) : Int) 1 = ((u % B + 1 : Nat) : Int) := by rw [addI_i64 (by omega) (by omega)]; omega
  have e4 : quoI .i64 (-(u : Int)) (B : Int) = -((u / B : Nat) : Int) := by
    unfold quoI
    rw [Int.neg_tdiv]
    have := Nat.div_le_self u B
    have e : (u : Int).tdiv (B : Int) = ((u / B : Nat) : Int) := rfl
    rw [e]
    generalize u / B = q at this ⊢
    exact wrap64 (by omega) (by omega)
  have e5 : cutS [48, 49, 50, 51, 52, 53, 54, 55, 56, 57, 97, 98, 99, 100, 101, 102] ((u % B : Nat) : Int) ((u % B + 1 : Nat) : Int) = [dgt (u % B)] := hex_cut ⟨u % B, by omega⟩
  simp only [e1, e2, e3, e4, e5]
  have key : (s = [] ∨ 0 < u) → need (notB (eqI (B : Int) 0)) (need (andB (leI 0 ((u % B + 1 : Nat) : Int)) (leI ((u % B + 1 : Nat) : Int) 16)) (need (andB (leI 0 ((u % B : Nat) : Int)) (leI ((u % B : Nat) : Int) ((u % B + 1 : Nat) : Int)))
      (need (catOk [dgt (u % B)] s) (need (notB (eqI (B : Int) 0)) (True ∧ ∃ m' : Nat, m' < m ∧ dgI B (digs B 64 a.natAbs) (dgX.mk (-((u / B : Nat) : Int)) (catS [dgt (u % B)] s)) m'))))) := by
    intro hor
    have hTT := hT hor
    have hlen : s.length < 64 := by
      have h64 := digs_len B 64 a.natAbs
      rw [← hTT] at h64
      have := digs_ne_nil (b := B) (u := u) hf1
      have : 1 ≤ (digs B f u).length := List.length_pos_iff.2 this
      simp at h64; omega
    simp only [need_iff]
    refine ⟨by simp [notB, eqI]; omega, by simp [andB, leI]; omega, by simp [andB, leI]; omega, by rw [catOk_t]; simp; omega, by simp [notB, eqI]; omega, trivial, u / B, ?_, ?_⟩
    · rw [hm]
      rcases hor with rfl | h0
      · have := Nat.div_le_self u B
        simp; omega
      · have := Nat.div_lt_self h0 (show 1 < B by omega)
        omega
    · rcases Nat.lt_or_ge u B with hlt | hge
      · refine ⟨0, 1, ?_, by omega, by simp; omega, by omega, ?_, ?_, ?_, ?_⟩
        · simp [Nat.div_eq_of_lt hlt]
        · simp [Nat.div_eq_of_lt hlt, catS]
        · simp [catS]
        · intro _ _
          obtain ⟨g, rfl⟩ : ∃ g, f = g + 1 := ⟨f - 1, by omega⟩
          rw [digs_lt hlt] at hTT
          rw [Nat.mod_eq_of_lt hlt]
          exact hTT
        · simp [catS]; omega
      · obtain ⟨q1, q2, q3⟩ := dg_step (by omega) hf hf1 hTT hge
        have := Nat.div_le_self u B
        have := Nat.div_pos hge hB
        refine ⟨u / B, f - 1, rfl, by omega, q1, q2, by simp [catS], fun _ => q3, fun _ h0 => by omega, by simp [catS]; omega⟩
  rw [br_iff]
  refine ⟨fun hlt => key (.inr (by simp [ltI] at hlt; omega)), fun hge => ?_⟩
  rw [br_iff]
  refine ⟨fun he => key (.inl (by simpa [eqS, strEq] using he)), fun he => ?_⟩
  have h0 : u = 0 := by simp [ltI] at hge; omega
  have hne : s ≠ [] := by simpa [eqS, strEq] using he
  exact ⟨by rw [hT0 hne h0]; rfl, trivial⟩
theorem tx_vc (n b : Int) (K : V → List Bk → Prop) : vcF Tryd.prog cfgN (ctOf [(43, inlC Tryd.prog cfgN (ctOf []) 43)]) (lpOf []) 33 [.int .i64 n, .int .i64 b] [] K = (
  br (eqI b 8) (
    need (andB (inI64 n) (orB (orB (eqI b 8) (eqI b 16)) (eqI b 10))) (
    K (V.str (textN b.toNat n)) [])) (
    br (eqI b 10) (
      need (andB (inI64 n) (orB (orB (eqI b 8) (eqI b 16)) (eqI b 10))) (
      K (V.str (textN b.toNat n)) [])) (
      br (notB (eqI b 16)) (
        K (V.str []) []) (
        need (andB (inI64 n) (orB (orB (eqI b 8) (eqI b 16)) (eqI b 10))) (
        K (V.str (textN b.toNat n)) []))))) := by kernel_rfl

def dgCon : Con := fun vs bs K => match vs, bs with
  | [.int .i64 n, .int .i64 b], [] => need (andB (leI n 0) (leI (-9223372036854775808) n)) (need (andB (leI 2 b) (leI b 16)) (K (.str (digs b.toNat 64 n.natAbs)) []))
  | _, _ => False

def rt_vc_1 (n b : Int) (K : V → List Bk → Prop) : Prop :=
  (
    br (ltI n 0) (
      need (andB (leI n 0) (leI (-9223372036854775808) n)) (
      need (andB (leI 2 b) (leI b 16)) (
      need (catOk [45] (digs b.toNat 64 n.natAbs)) (
      K (V.str (45 :: digs b.toNat 64 n.natAbs)) [])))) (
      need (andB (leI (subI IntKind.i64 0 n) 0) (leI (-9223372036854775808) (subI IntKind.i64 0 n))) (
      need (andB (leI 2 b) (leI b 16)) (
      K (V.str (digs b.toNat 64 (subI IntKind.i64 0 n).natAbs)) []))))
theorem rt_vc (n b : Int) (K : V → List Bk → Prop) : vcF Tryd.prog cfgN (ctOf [(45, inlC Tryd.prog cfgN (ctOf []) 45), (46, dgCon)]) (lpOf []) 34 [.int .i64 n, .int .i64 b] [] K = (
  br (eqI b 8) (rt_vc_1 n b K) (
    br (eqI b 10) (rt_vc_1 n b K) (
      br (notB (eqI b 16)) (
        K (V.str []) []) (rt_vc_1 n b K)))) := by kernel_rfl

theorem dg_con {n : Nat} (hn : 1 ≤ n) : ConOk (evalF Tryd.prog cfgN n) 46 dgCon := by
  intro vs bs K h
  unfold dgCon at h
  split at h
  · rename_i a b
    simp only [need_iff, andB, leI, Bool.and_eq_true, decide_eq_true_eq] at h
    obtain ⟨⟨h1, h2⟩, ⟨h3, h4⟩, hK⟩ := h
    obtain ⟨r, out, e, rfl, rfl⟩ := dg_run hn h1 h2 h3 h4
    exact ⟨_, _, e, hK⟩
  · exact h.elim
/-- A number's text; the empty text if the base is none. -/
def textF (a b : Int) : List UInt8 := if b = 8 ∨ b = 10 ∨ b = 16 then textN b.toNat a else []
theorem text_run {n : Nat} (hn : 2 ≤ n) {a b : Int} (h1 : -9223372036854775808 ≤ a) (h2 : a ≤ 9223372036854775807) : ∃ r out, evalF Tryd.prog cfgN n 33 [.int .i64 a, .int .i64 b] [] = some (r, out) ∧ r = .str (textF a b) ∧ out = [] := by
  refine run_of (lp := lpOf []) (ct := ctOf [(43, inlC Tryd.prog cfgN (ctOf []) 43)]) (by omega) (fun k hk => ctOf_ok (ctOf_cons (inl_ok (by omega) fun _ _ => noCt_ok _) (ctOf_nil _))) ?_
  rw [tx_vc]
  have hin : inI64 a = true := by simp [inI64, h1, h2]
  simp only [br_iff, need_iff, hin, andB, orB, notB, eqI, Bool.true_and, Bool.or_eq_true, Bool.not_eq_true', decide_eq_true_eq, decide_eq_false_iff_not, Bool.not_eq_false']
  refine ⟨fun h => ⟨by omega, by simp [textF, h], trivial⟩, fun h => ⟨fun h' => ⟨by omega, by simp [textF, h'], trivial⟩, fun h' => ⟨fun h'' => ⟨by simp [textF, h, h', h''], trivial⟩, fun h'' => ⟨by omega, by simp [textF, h''], trivial⟩⟩⟩⟩
theorem rtext_run {n : Nat} (hn : 2 ≤ n) {a b : Int} (h1 : -9223372036854775808 ≤ a) (h2 : a ≤ 9223372036854775807) : ∃ r out, evalF Tryd.prog cfgN n 34 [.int .i64 a, .int .i64 b] [] = some (r, out) ∧ r = .str (textF a b) ∧ out = [] := by
  refine run_of (lp := lpOf []) (ct := ctOf [(45, inlC Tryd.prog cfgN (ctOf []) 45), (46, dgCon)]) (by omega) (fun k hk => ctOf_ok (ctOf_cons (inl_ok (by omega) fun _ _ => noCt_ok _) (ctOf_cons (dg_con (by omega)) (ctOf_nil _)))) ?_
  rw [rt_vc]
  have key : (b = 8 ∨ b = 10 ∨ b = 16) → br (ltI a 0) (need (andB (leI a 0) (leI (-9223372036854775808) a)) (need (andB (leI 2 b) (leI b 16)) (need (catOk [45] (digs b.toNat 64 a.natAbs)) (V.str (45 :: digs b.toNat 64 a.natAbs) = .str (textF a b) ∧ ([] : List Bk) = []))))
      (need (andB (leI (subI IntKind.i64 0 a) 0) (leI (-9223372036854775808) (subI IntKind.i64 0 a))) (need (andB (leI 2 b) (leI b 16)) (V.str (digs b.toNat 64 (subI IntKind.i64 0 a).natAbs) = .str (textF a b) ∧ ([] : List Bk) = []))) := by
    intro hb
    have hx : textF a b = textN b.toNat a := by simp [textF, hb]
    have hlen := digs_len b.toNat 64 a.natAbs
    simp only [br_iff, need_iff, andB_t, andB_f, orB_t, orB_f, notB_t, notB_f, leI_t, leI_f, ltI_t, ltI_f, eqI_t, eqI_f, leN_t, leN_f, eqN_t, eqN_f, eqS_t, eqS_f, eqB_t, eqB_f, catOk_t, leC_t, lenS]
    refine ⟨fun h => ⟨by omega, by omega, by simp; omega, ?_, trivial⟩, fun h => ?_⟩
    · rw [hx]
      cases a with
      | ofNat u => exact absurd h (by simp)
      | negSucc u => rfl
    · have hs : subI .i64 0 a = -a := by rw [subI_i64 (by omega) (by omega)]; omega
      rw [hs]
      refine ⟨by omega, by omega, ?_, trivial⟩
      rw [hx]
      cases a with
      | ofNat u => simp [textN]
      | negSucc u => exact absurd (Int.negSucc_lt_zero u) (by omega)
  rw [br_iff]
  refine ⟨fun h => key (.inl (by simpa [eqI] using h)), fun h => ?_⟩
  rw [br_iff]
  refine ⟨fun h' => key (.inr (.inl (by simpa [eqI] using h'))), fun h' => ?_⟩
  rw [br_iff]
  refine ⟨fun h'' => ⟨?_, rfl⟩, fun h'' => key (.inr (.inr (by simpa [notB, eqI] using h'')))⟩
  simp only [notB, eqI, Bool.not_eq_true', decide_eq_false_iff_not] at h h' h''
  simp [textF, h, h', h'']
end Go.Proofs.YtjilikmpfmifkaaDoor
namespace Go.Proofs.YtjilikmpfmifkaaDoor
open Go.RowKit
set_option maxRecDepth 100000
set_option linter.unusedVariables false
set_option linter.unusedSimpArgs false
def badB (c : UInt8) : Bool := decide (c.toNat < 33 ∨ 126 < c.toNat ∨ c.toNat = 47)
def validF (s : List UInt8) : Bool := decide (s ≠ [] ∧ s ≠ [46] ∧ s ≠ [46, 46] ∧ s.length ≤ 64 ∧ ∀ c ∈ s, ¬ (c.toNat < 33 ∨ 126 < c.toNat ∨ c.toNat = 47))

def verS (s : List UInt8) (m : Int) : List UInt8 := if m < 256 then [] else if s = [102, 115, 50, 48, 50, 54] ∨ [102, 115, 50, 48, 50, 54, 46].isPrefixOf s = true then [102, 115, 50, 48, 50, 54] else [117, 110, 107, 110, 111, 119, 110]

def verN (m : Int) : Int := if m < 256 then 0 else min m 8192

def verE (m : Int) : Int := if m < 256 then 19 else 0

def verCon : Con := fun vs bs K => match vs, bs with
  | [.str s, .int .i64 m], [] => K (.tup [.str (verS s m), .int .i64 (verN m), .int .i64 (verE m)]) []
  | _, _ => False

def okCon : Con := fun vs bs K => match vs, bs with
  | [], [] => K (.bool true) []
  | _, _ => False

def valCon : Con := fun vs bs K => match vs, bs with
  | [.str s], [] => need (leC s.length 4611686018427387904) (K (.bool (validF s)) [])
  | _, _ => False

def txCon : Con := fun vs bs K => match vs, bs with
  | [.int .i64 n, .int .i64 b], [] => need (andB (leI (-9223372036854775808) n) (leI n 9223372036854775807)) (K (.str (textF n b)) [])
  | _, _ => False

def nameF (a b : Int) : List UInt8 := 115 :: (textF a 10 ++ [46] ++ textF b 10)

def nameCon : Con := fun vs bs K => match vs, bs with
  | [.int .i64 a, .int .i64 b], [] => need (andB (andB (leI (-9223372036854775808) a) (leI a 9223372036854775807)) (andB (leI (-9223372036854775808) b) (leI b 9223372036854775807))) (K (.str (nameF a b)) [])
  | _, _ => False

structure pvC where
  s : List UInt8
  cnt : Int
structure pvX where
  i : Int
def pvSt (c : pvC) (x : pvX) : St := ⟨[(0, .str c.s), (20, .int .i64 c.cnt), (21, .int .i64 x.i)], []⟩
def pvUn (s : St) : Option (pvC × pvX) :=
  match s with
  | ⟨[(q0, .str s), (q1, .int .i64 cnt), (q2, .int .i64 i)], []⟩ => bif Nat.beq q0 0 && Nat.beq q1 20 && Nat.beq q2 21 then some (⟨s, cnt⟩, ⟨i⟩) else none
  | _ => none
def pvL (inv : pvC → pvX → pvX → Nat → Prop) : LoopS where
  C := pvC
  X := pvX
  st := pvSt
  un := pvUn
  ok := by
    intro s c x h
    unfold pvUn at h
    split at h
    · simp only [Bool.cond_eq_ite] at h
      split at h
      · rename_i hg
        simp only [Bool.and_eq_true, Nat.beq_eq] at hg
        obtain ⟨⟨rfl, rfl⟩, rfl⟩ := hg
        cases h
        rfl
      · cases h
    · cases h
  inv := inv

structure rvC where
  s : List UInt8
structure rvX where
  i : Int
def rvSt (c : rvC) (x : rvX) : St := ⟨[(0, .str c.s), (3, .int .i64 x.i)], []⟩
def rvUn (s : St) : Option (rvC × rvX) :=
  match s with
  | ⟨[(q0, .str s), (q1, .int .i64 i)], []⟩ => bif Nat.beq q0 0 && Nat.beq q1 3 then some (⟨s⟩, ⟨i⟩) else none
  | _ => none
def rvL (inv : rvC → rvX → rvX → Nat → Prop) : LoopS where
  C := rvC
  X := rvX
  st := rvSt
  un := rvUn
  ok := by
    intro s c x h
    unfold rvUn at h
    split at h
    · simp only [Bool.cond_eq_ite] at h
      split at h
      · rename_i hg
        simp only [Bool.and_eq_true, Nat.beq_eq] at hg
        obtain ⟨rfl, rfl⟩ := hg
        cases h
        rfl
      · cases h
    · cases h
  inv := inv

theorem pv_vc (s : List UInt8) (I : pvC → pvX → pvX → Nat → Prop) (K : V → List Bk → Prop) : vcF Tryd.prog cfgN (ctOf []) (lpOf [(4, pvL I)]) 15 [.str s] [] K = (
  br (eqS s []) (
    K (V.bool false) []) (
    br (eqS s [46]) (
      K (V.bool false) []) (
      br (eqS s [46, 46]) (
        K (V.bool false) []) (
        br (ltI 64 (lenS s)) (
          K (V.bool false) []) (
          (∃ m3 : Nat, (m3 < 18446744073709551616) ∧ (
          I (pvC.mk s (lenS s)) (pvX.mk 0) (pvX.mk 0) m3)) ∧ (
          ∀ x3 : (pvL I).X, ∀ m4 : Nat, (I (pvC.mk s (lenS s)) (pvX.mk 0) x3 m4) → (
          br (ltI x3.1 (lenS s)) (
            need (andB (leI 0 x3.1) (ltI x3.1 (lenS s))) (
            br (ltI (atS s x3.1) 33) (
              K (V.bool false) []) (
              need (andB (leI 0 x3.1) (ltI x3.1 (lenS s))) (
              br (ltI 126 (atS s x3.1)) (
                K (V.bool false) []) (
                need (andB (leI 0 x3.1) (ltI x3.1 (lenS s))) (
                br (eqI (atS s x3.1) 47) (
                  K (V.bool false) []) (
                  ((pvC.mk s (lenS s) : (pvL I).C) = pvC.mk s (lenS s)) ∧ (
                  ∃ m'5 : Nat, (m'5 < m4) ∧ (
                  I (pvC.mk s (lenS s)) (pvX.mk 0) (pvX.mk (addI IntKind.i64 x3.1 1)) m'5))))))))) (
            K (V.bool true) [])))))))) := by kernel_rfl

theorem rv_vc (s : List UInt8) (I : rvC → rvX → rvX → Nat → Prop) (K : V → List Bk → Prop) : vcF Tryd.prog cfgN (ctOf []) (lpOf [(2, rvL I)]) 29 [.str s] [] K = (
  (∃ m3 : Nat, (m3 < 18446744073709551616) ∧ (
  I (rvC.mk s) (rvX.mk 0) (rvX.mk 0) m3)) ∧ (
  ∀ x3 : (rvL I).X, ∀ m4 : Nat, (I (rvC.mk s) (rvX.mk 0) x3 m4) → (
  br (ltI x3.1 (lenS s)) (
    need (andB (leI 0 x3.1) (ltI x3.1 (lenS s))) (
    br (ltI (atS s x3.1) 33) (
      K (V.bool false) []) (
      need (andB (leI 0 x3.1) (ltI x3.1 (lenS s))) (
      br (ltI 126 (atS s x3.1)) (
        K (V.bool false) []) (
        need (andB (leI 0 x3.1) (ltI x3.1 (lenS s))) (
        br (eqI (atS s x3.1) 47) (
          K (V.bool false) []) (
          ((rvC.mk s : (rvL I).C) = rvC.mk s) ∧ (
          ∃ m'5 : Nat, (m'5 < m4) ∧ (
          I (rvC.mk s) (rvX.mk 0) (rvX.mk (addI IntKind.i64 x3.1 1)) m'5))))))))) (
    br (leI 1 (lenS s)) (
      br (leI (lenS s) 64) (
        br (notB (eqS s [46])) (
          K (V.bool (notB (eqS s [46, 46]))) []) (
          K (V.bool false) [])) (
        K (V.bool false) [])) (
      K (V.bool false) []))))) := by kernel_rfl

theorem ver_vc (s : List UInt8) (m : Int) (K : V → List Bk → Prop) : vcF Tryd.prog cfgN (ctOf []) (lpOf []) 25 [.str s, .int .i64 m] [] K = (
  br (ltI m 256) (
    K (V.tup [V.str [], V.int IntKind.i64 0, V.int IntKind.i64 19]) []) (
    br (eqS s [102, 115, 50, 48, 50, 54]) (
      K (V.tup [V.str [102, 115, 50, 48, 50, 54], V.int IntKind.i64 (minI m 8192), V.int IntKind.i64 0]) []) (
      br ((ByteArray.mk #[102, 115, 50, 48, 50, 54, 46]).data.toList.isPrefixOf s) (
        K (V.tup [V.str [102, 115, 50, 48, 50, 54], V.int IntKind.i64 (minI m 8192), V.int IntKind.i64 0]) []) (
        K (V.tup [V.str [117, 110, 107, 110, 111, 119, 110], V.int IntKind.i64 (minI m 8192), V.int IntKind.i64 0]) [])))) := by kernel_rfl

theorem rver_vc (s : List UInt8) (m : Int) (K : V → List Bk → Prop) : vcF Tryd.prog cfgN (ctOf []) (lpOf []) 26 [.str s, .int .i64 m] [] K = (
  br (ltI m 256) (
    K (V.tup [V.str [], V.int IntKind.i64 0, V.int IntKind.i64 19]) []) (
    br (eqS s [102, 115, 50, 48, 50, 54]) (
      K (V.tup [V.str [102, 115, 50, 48, 50, 54], V.int IntKind.i64 (minI m 8192), V.int IntKind.i64 0]) []) (
      br (leI 7 (lenS s)) (
        need (andB true (leI 7 (lenS s))) (
        br (eqS (cutS s 0 7) [102, 115, 50, 48, 50, 54, 46]) (
          K (V.tup [V.str [102, 115, 50, 48, 50, 54], V.int IntKind.i64 (minI m 8192), V.int IntKind.i64 0]) []) (
          K (V.tup [V.str [117, 110, 107, 110, 111, 119, 110], V.int IntKind.i64 (minI m 8192), V.int IntKind.i64 0]) []))) (
        K (V.tup [V.str [117, 110, 107, 110, 111, 119, 110], V.int IntKind.i64 (minI m 8192), V.int IntKind.i64 0]) [])))) := by kernel_rfl

theorem lver_vc (s : List UInt8) (m : Int) (K : V → List Bk → Prop) : vcF Tryd.prog cfgN (ctOf [(25, verCon), (26, verCon), (10, okCon)]) (lpOf []) 8 [.str s, .int .i64 m] [] K = (
  br (ltI 2000 (lenS s)) (
    K (V.bool true) []) (
    br (eqS (verS s m) (verS s m)) (
      br (eqI (verN m) (verN m)) (
        br (eqI (verE m) (verE m)) (
          K (V.bool true) []) (
          K (V.bool false) [])) (
        K (V.bool false) [])) (
      K (V.bool false) []))) := by kernel_rfl

theorem nm_vc (a b : Int) (K : V → List Bk → Prop) : vcF Tryd.prog cfgN (ctOf [(33, txCon)]) (lpOf []) 13 [.int .i64 a, .int .i64 b] [] K = (
  need (andB (leI (-9223372036854775808) a) (leI a 9223372036854775807)) (
  need (catOk [115] (textF a 10)) (
  need (catOk (115 :: textF a 10) [46]) (
  need (andB (leI (-9223372036854775808) b) (leI b 9223372036854775807)) (
  need (catOk (115 :: catS (textF a 10) [46]) (textF b 10)) (
  K (V.str (115 :: catS (catS (textF a 10) [46]) (textF b 10))) [])))))) := by kernel_rfl

theorem rnm_vc (a b : Int) (K : V → List Bk → Prop) : vcF Tryd.prog cfgN (ctOf [(34, txCon)]) (lpOf []) 14 [.int .i64 a, .int .i64 b] [] K = (
  need (andB (leI (-9223372036854775808) a) (leI a 9223372036854775807)) (
  need (catOk [115] (textF a 10)) (
  need (catOk (115 :: textF a 10) [46]) (
  need (andB (leI (-9223372036854775808) b) (leI b 9223372036854775807)) (
  need (catOk (115 :: catS (textF a 10) [46]) (textF b 10)) (
  K (V.str (115 :: catS (catS (textF a 10) [46]) (textF b 10))) [])))))) := by kernel_rfl

theorem lnm_vc (a b c d : Int) (K : V → List Bk → Prop) : vcF Tryd.prog cfgN (ctOf [(13, nameCon), (14, nameCon), (15, valCon), (10, okCon)]) (lpOf []) 4 [.agg [.int .i64 a, .int .i64 b], .agg [.int .i64 c, .int .i64 d]] [] K = (
  need (andB (andB (leI (-9223372036854775808) a) (leI a 9223372036854775807)) (andB (leI (-9223372036854775808) b) (leI b 9223372036854775807))) (
  need (andB (andB (leI (-9223372036854775808) c) (leI c 9223372036854775807)) (andB (leI (-9223372036854775808) d) (leI d 9223372036854775807))) (
  need (andB (andB (leI (-9223372036854775808) a) (leI a 9223372036854775807)) (andB (leI (-9223372036854775808) b) (leI b 9223372036854775807))) (
  br (eqS (115 :: (textF a 10 ++ [46] ++ textF b 10)) (115 :: (textF a 10 ++ [46] ++ textF b 10))) (
    need (leC (Int.ofNat (115 :: (textF a 10 ++ [46] ++ textF b 10)).length) 4611686018427387904) (
    br (validF (115 :: (textF a 10 ++ [46] ++ textF b 10))) (
      br (eqB (eqS (115 :: (textF a 10 ++ [46] ++ textF b 10)) (115 :: (textF c 10 ++ [46] ++ textF d 10)))
  (match decide (a = c) with
  | false => false
  | true => decide (b = d) && true)) (
        K (V.bool true) []) (
        K (V.bool false) [])) (
      K (V.bool false) []))) (
    K (V.bool false) []))))) := by kernel_rfl

theorem validF_iff {s : List UInt8} : validF s = true ↔ (s ≠ [] ∧ s ≠ [46] ∧ s ≠ [46, 46] ∧ s.length ≤ 64 ∧ ∀ c ∈ s, ¬ (c.toNat < 33 ∨ 126 < c.toNat ∨ c.toNat = 47)) := by simp [validF]
theorem validF_not {s : List UInt8} (h : ¬ (s ≠ [] ∧ s ≠ [46] ∧ s ≠ [46, 46] ∧ s.length ≤ 64 ∧ ∀ c ∈ s, ¬ (c.toNat < 33 ∨ 126 < c.toNat ∨ c.toNat = 47))) : validF s = false := by
  rw [← Bool.not_eq_true, validF_iff]; exact h
def vI (s : List UInt8) (i : Int) (m : Nat) : Prop := ∃ k : Nat, i = (k : Int) ∧ k + m = s.length ∧ ∀ c ∈ s.take k, ¬ (c.toNat < 33 ∨ 126 < c.toNat ∨ c.toNat = 47)
theorem take_all {s : List UInt8} {k : Nat} (hk : k < s.length) (h : ∀ c ∈ s.take k, ¬ (c.toNat < 33 ∨ 126 < c.toNat ∨ c.toNat = 47)) (h2 : ¬ (s[k].toNat < 33 ∨ 126 < s[k].toNat ∨ s[k].toNat = 47)) : ∀ c ∈ s.take (k + 1), ¬ (c.toNat < 33 ∨ 126 < c.toNat ∨ c.toNat = 47) := by
  intro c hc
  rw [List.take_succ_eq_append_getElem hk] at hc
  rcases List.mem_append.1 hc with hc | hc
  · exact h c hc
  · obtain rfl := List.mem_singleton.1 hc
    exact h2
theorem val_con {n : Nat} (hn : 1 ≤ n) : ConOk (evalF Tryd.prog cfgN n) 15 valCon := by
  intro vs bs K h
  unfold valCon at h
  split at h
  · rename_i s
    simp only [br_iff, need_iff, andB_t, andB_f, orB_t, orB_f, notB_t, notB_f, leI_t, leI_f, ltI_t, ltI_f, eqI_t, eqI_f, leN_t, leN_f, eqN_t, eqN_f, eqS_t, eqS_f, eqB_t, eqB_f, catOk_t, leC_t] at h
    obtain ⟨hs, hK⟩ := h
    have : ∃ r out, evalF Tryd.prog cfgN n 15 [.str s] [] = some (r, out) ∧ r = .bool (validF s) ∧ out = [] := by
      refine run_of (lp := lpOf [(4, pvL fun _ _ x m => vI s x.i m)]) hn (fun k _ => noCt_ok _) ?_
      rw [pv_vc]
      simp only [br_iff]
      refine ⟨fun h => ?_, fun h1 => ⟨fun h => ?_, fun h2 => ⟨fun h => ?_, fun h3 => ⟨fun h => ?_, fun h4 => ?_⟩⟩⟩⟩
      · simp only [br_iff, need_iff, andB_t, andB_f, orB_t, orB_f, notB_t, notB_f, leI_t, leI_f, ltI_t, ltI_f, eqI_t, eqI_f, leN_t, leN_f, eqN_t, eqN_f, eqS_t, eqS_f, eqB_t, eqB_f, catOk_t, leC_t] at h
        exact ⟨by rw [validF_not (by simp [h])], trivial⟩
      · simp only [br_iff, need_iff, andB_t, andB_f, orB_t, orB_f, notB_t, notB_f, leI_t, leI_f, ltI_t, ltI_f, eqI_t, eqI_f, leN_t, leN_f, eqN_t, eqN_f, eqS_t, eqS_f, eqB_t, eqB_f, catOk_t, leC_t] at h
        exact ⟨by rw [validF_not (by simp [h])], trivial⟩
      · simp only [br_iff, need_iff, andB_t, andB_f, orB_t, orB_f, notB_t, notB_f, leI_t, leI_f, ltI_t, ltI_f, eqI_t, eqI_f, leN_t, leN_f, eqN_t, eqN_f, eqS_t, eqS_f, eqB_t, eqB_f, catOk_t, leC_t] at h
        exact ⟨by rw [validF_not (by simp [h])], trivial⟩
      · simp only [br_iff, need_iff, andB_t, andB_f, orB_t, orB_f, notB_t, notB_f, leI_t, leI_f, ltI_t, ltI_f, eqI_t, eqI_f, leN_t, leN_f, eqN_t, eqN_f, eqS_t, eqS_f, eqB_t, eqB_f, catOk_t, leC_t, lenS] at h
        exact ⟨by rw [validF_not (by rintro ⟨_, _, _, q, _⟩; omega)], trivial⟩
      · simp only [br_iff, need_iff, andB_t, andB_f, orB_t, orB_f, notB_t, notB_f, leI_t, leI_f, ltI_t, ltI_f, eqI_t, eqI_f, leN_t, leN_f, eqN_t, eqN_f, eqS_t, eqS_f, eqB_t, eqB_f, catOk_t, leC_t, lenS] at h1 h2 h3 h4
        refine ⟨⟨s.length, by omega, 0, rfl, by omega, by simp⟩, ?_⟩
        rintro ⟨i⟩ m ⟨k, rfl, hk, hp⟩
        refine ⟨fun hlt => ?_, fun hge => ?_⟩
        · have hlt : k < s.length := by simp only [br_iff, need_iff, andB_t, andB_f, orB_t, orB_f, notB_t, notB_f, leI_t, leI_f, ltI_t, ltI_f, eqI_t, eqI_f, leN_t, leN_f, eqN_t, eqN_f, eqS_t, eqS_f, eqB_t, eqB_f, catOk_t, leC_t, lenS] at hlt; omega
          have hin : andB (leI 0 (k : Int)) (ltI (k : Int) (lenS s)) = true := by simp only [br_iff, need_iff, andB_t, andB_f, orB_t, orB_f, notB_t, notB_f, leI_t, leI_f, ltI_t, ltI_f, eqI_t, eqI_f, leN_t, leN_f, eqN_t, eqN_f, eqS_t, eqS_f, eqB_t, eqB_f, catOk_t, leC_t, lenS]; omega
          have bad : (s[k].toNat < 33 ∨ 126 < s[k].toNat ∨ s[k].toNat = 47) → V.bool false = .bool (validF s) ∧ ([] : List Bk) = [] := by
            intro hb
            rw [validF_not (by rintro ⟨_, _, _, _, q⟩; exact q _ (List.getElem_mem hlt) hb)]
            exact ⟨rfl, rfl⟩
          simp only [need_iff, hin, atS_at hlt, br_iff]
          refine ⟨trivial, fun h => by simpa using bad (.inl (by simp only [br_iff, need_iff, andB_t, andB_f, orB_t, orB_f, notB_t, notB_f, leI_t, leI_f, ltI_t, ltI_f, eqI_t, eqI_f, leN_t, leN_f, eqN_t, eqN_f, eqS_t, eqS_f, eqB_t, eqB_f, catOk_t, leC_t] at h; omega)), fun g1 => ⟨trivial, fun h => by simpa using bad (.inr (.inl (by simp only [br_iff, need_iff, andB_t, andB_f, orB_t, orB_f, notB_t, notB_f, leI_t, leI_f, ltI_t, ltI_f, eqI_t, eqI_f, leN_t, leN_f, eqN_t, eqN_f, eqS_t, eqS_f, eqB_t, eqB_f, catOk_t, leC_t] at h; omega))), fun g2 => ⟨trivial, fun h => by simpa using bad (.inr (.inr (by simp only [br_iff, need_iff, andB_t, andB_f, orB_t, orB_f, notB_t, notB_f, leI_t, leI_f, ltI_t, ltI_f, eqI_t, eqI_f, leN_t, leN_f, eqN_t, eqN_f, eqS_t, eqS_f, eqB_t, eqB_f, catOk_t, leC_t] at h; omega))), fun g3 => ?_⟩⟩⟩
          simp only [br_iff, need_iff, andB_t, andB_f, orB_t, orB_f, notB_t, notB_f, leI_t, leI_f, ltI_t, ltI_f, eqI_t, eqI_f, leN_t, leN_f, eqN_t, eqN_f, eqS_t, eqS_f, eqB_t, eqB_f, catOk_t, leC_t] at g1 g2 g3
          refine ⟨trivial, m - 1, by omega, k + 1, ?_, by omega, take_all hlt hp (by omega)⟩
          rw [addI_i64 (by omega) (by omega)]; omega
        · have : k = s.length := by simp only [br_iff, need_iff, andB_t, andB_f, orB_t, orB_f, notB_t, notB_f, leI_t, leI_f, ltI_t, ltI_f, eqI_t, eqI_f, leN_t, leN_f, eqN_t, eqN_f, eqS_t, eqS_f, eqB_t, eqB_f, catOk_t, leC_t, lenS] at hge; omega
          subst this
          rw [List.take_length] at hp
          have : validF s = true := validF_iff.2 ⟨h1, h2, h3, by omega, hp⟩
          rw [this]
          exact ⟨rfl, trivial⟩
    obtain ⟨r, out, e, rfl, rfl⟩ := this
    exact ⟨_, _, e, hK⟩
  · exact h.elim
theorem rval_con {n : Nat} (hn : 1 ≤ n) : ConOk (evalF Tryd.prog cfgN n) 29 valCon := by
  intro vs bs K h
  unfold valCon at h
  split at h
  · rename_i s
    simp only [br_iff, need_iff, andB_t, andB_f, orB_t, orB_f, notB_t, notB_f, leI_t, leI_f, ltI_t, ltI_f, eqI_t, eqI_f, leN_t, leN_f, eqN_t, eqN_f, eqS_t, eqS_f, eqB_t, eqB_f, catOk_t, leC_t] at h
    obtain ⟨hs, hK⟩ := h
    have : ∃ r out, evalF Tryd.prog cfgN n 29 [.str s] [] = some (r, out) ∧ r = .bool (validF s) ∧ out = [] := by
      refine run_of (lp := lpOf [(2, rvL fun _ _ x m => vI s x.i m)]) hn (fun k _ => noCt_ok _) ?_
      rw [rv_vc]
      refine ⟨⟨s.length, by omega, 0, rfl, by omega, by simp⟩, ?_⟩
      rintro ⟨i⟩ m ⟨k, rfl, hk, hp⟩
      rw [br_iff]
      refine ⟨fun hlt => ?_, fun hge => ?_⟩
      · have hlt : k < s.length := by simp only [br_iff, need_iff, andB_t, andB_f, orB_t, orB_f, notB_t, notB_f, leI_t, leI_f, ltI_t, ltI_f, eqI_t, eqI_f, leN_t, leN_f, eqN_t, eqN_f, eqS_t, eqS_f, eqB_t, eqB_f, catOk_t, leC_t, lenS] at hlt; omega
        have hin : andB (leI 0 (k : Int)) (ltI (k : Int) (lenS s)) = true := by simp only [br_iff, need_iff, andB_t, andB_f, orB_t, orB_f, notB_t, notB_f, leI_t, leI_f, ltI_t, ltI_f, eqI_t, eqI_f, leN_t, leN_f, eqN_t, eqN_f, eqS_t, eqS_f, eqB_t, eqB_f, catOk_t, leC_t, lenS]; omega
        have bad : (s[k].toNat < 33 ∨ 126 < s[k].toNat ∨ s[k].toNat = 47) → V.bool false = .bool (validF s) ∧ ([] : List Bk) = [] := by
          intro hb
          rw [validF_not (by rintro ⟨_, _, _, _, q⟩; exact q _ (List.getElem_mem hlt) hb)]
          exact ⟨rfl, rfl⟩
        simp only [need_iff, hin, atS_at hlt, br_iff]
        refine ⟨trivial, fun h => by simpa using bad (.inl (by simp only [br_iff, need_iff, andB_t, andB_f, orB_t, orB_f, notB_t, notB_f, leI_t, leI_f, ltI_t, ltI_f, eqI_t, eqI_f, leN_t, leN_f, eqN_t, eqN_f, eqS_t, eqS_f, eqB_t, eqB_f, catOk_t, leC_t] at h; omega)), fun g1 => ⟨trivial, fun h => by simpa using bad (.inr (.inl (by simp only [br_iff, need_iff, andB_t, andB_f, orB_t, orB_f, notB_t, notB_f, leI_t, leI_f, ltI_t, ltI_f, eqI_t, eqI_f, leN_t, leN_f, eqN_t, eqN_f, eqS_t, eqS_f, eqB_t, eqB_f, catOk_t, leC_t] at h; omega))), fun g2 => ⟨trivial, fun h => by simpa using bad (.inr (.inr (by simp only [br_iff, need_iff, andB_t, andB_f, orB_t, orB_f, notB_t, notB_f, leI_t, leI_f, ltI_t, ltI_f, eqI_t, eqI_f, leN_t, leN_f, eqN_t, eqN_f, eqS_t, eqS_f, eqB_t, eqB_f, catOk_t, leC_t] at h; omega))), fun g3 => ?_⟩⟩⟩
        simp only [br_iff, need_iff, andB_t, andB_f, orB_t, orB_f, notB_t, notB_f, leI_t, leI_f, ltI_t, ltI_f, eqI_t, eqI_f, leN_t, leN_f, eqN_t, eqN_f, eqS_t, eqS_f, eqB_t, eqB_f, catOk_t, leC_t] at g1 g2 g3
        refine ⟨trivial, m - 1, by omega, k + 1, ?_, by omega, take_all hlt hp (by omega)⟩
        rw [addI_i64 (by omega) (by omega)]; omega
      · have : k = s.length := by simp only [br_iff, need_iff, andB_t, andB_f, orB_t, orB_f, notB_t, notB_f, leI_t, leI_f, ltI_t, ltI_f, eqI_t, eqI_f, leN_t, leN_f, eqN_t, eqN_f, eqS_t, eqS_f, eqB_t, eqB_f, catOk_t, leC_t, lenS] at hge; omega
        subst this
        rw [List.take_length] at hp
        simp only [br_iff, need_iff, andB_t, andB_f, orB_t, orB_f, notB_t, notB_f, leI_t, leI_f, ltI_t, ltI_f, eqI_t, eqI_f, leN_t, leN_f, eqN_t, eqN_f, eqS_t, eqS_f, eqB_t, eqB_f, catOk_t, leC_t, lenS]
        refine ⟨fun h1 => ⟨fun h2 => ⟨fun h3 => ⟨?_, trivial⟩, fun h3 => ⟨?_, trivial⟩⟩, fun h2 => ⟨?_, trivial⟩⟩, fun h1 => ⟨?_, trivial⟩⟩
        · by_cases h4 : s = [46, 46]
          · rw [validF_not (by rintro ⟨_, _, q, _, _⟩; exact q h4)]; simp [h4, notB, eqS, strEq]
          · rw [validF_iff.2 ⟨by rintro rfl; simp at h1, h3, h4, by omega, hp⟩]; simp [h4, notB, eqS, strEq]
        · rw [validF_not (by rintro ⟨_, q, _, _, _⟩; exact q h3)]
        · rw [validF_not (by rintro ⟨_, _, _, q, _⟩; omega)]
        · rw [validF_not (by rintro ⟨q, _, _, _, _⟩; exact q (List.eq_nil_of_length_eq_zero (by omega)))]
    obtain ⟨r, out, e, rfl, rfl⟩ := this
    exact ⟨_, _, e, hK⟩
  · exact h.elim
end Go.Proofs.YtjilikmpfmifkaaDoor
namespace Go.Proofs.YtjilikmpfmifkaaDoor
open Go.RowKit
set_option maxRecDepth 100000
set_option linter.unusedVariables false
set_option linter.unusedSimpArgs false
def Says (f : Nat) (vs : List V) : Prop := ∃ r out, evalF Tryd.prog cfgN 20 f vs [] = some (r, out) ∧ r = .bool true ∧ out = []
theorem ok_con {n : Nat} (hn : 12 ≤ n) : ConOk (evalF Tryd.prog cfgN n) 10 okCon := by
  intro vs bs K h
  unfold okCon at h
  split at h
  · exact ⟨_, _, awake_ev hn, h⟩
  · exact h.elim
theorem ver_con {n : Nat} (hn : 1 ≤ n) : ConOk (evalF Tryd.prog cfgN n) 25 verCon := by
  intro vs bs K h
  unfold verCon at h
  split at h
  · rename_i s m
    refine run_of (lp := lpOf []) hn (fun k _ => noCt_ok _) ?_
    rw [ver_vc]
    simp only [br_iff]
    refine ⟨fun g => ?_, fun g => ⟨fun g1 => ?_, fun g1 => ⟨fun g2 => ?_, fun g2 => ?_⟩⟩⟩
    · simp only [br_iff, need_iff, andB_t, andB_f, orB_t, orB_f, notB_t, notB_f, leI_t, leI_f, ltI_t, ltI_f, eqI_t, eqI_f, leN_t, leN_f, eqN_t, eqN_f, eqS_t, eqS_f, eqB_t, eqB_f, catOk_t, leC_t] at g
      simpa [verS, verN, verE, g] using h
    · simp only [br_iff, need_iff, andB_t, andB_f, orB_t, orB_f, notB_t, notB_f, leI_t, leI_f, ltI_t, ltI_f, eqI_t, eqI_f, leN_t, leN_f, eqN_t, eqN_f, eqS_t, eqS_f, eqB_t, eqB_f, catOk_t, leC_t] at g g1
      simpa [verS, verN, verE, g1, show ¬ m < 256 by omega, minI] using h
    · simp only [br_iff, need_iff, andB_t, andB_f, orB_t, orB_f, notB_t, notB_f, leI_t, leI_f, ltI_t, ltI_f, eqI_t, eqI_f, leN_t, leN_f, eqN_t, eqN_f, eqS_t, eqS_f, eqB_t, eqB_f, catOk_t, leC_t] at g
      have g2 : [102, 115, 50, 48, 50, 54, 46].isPrefixOf s = true := g2
      unfold verS verN verE at h
      simp only [show ¬ m < 256 by omega, if_false, g2, or_true, if_true] at h
      exact h
    · simp only [br_iff, need_iff, andB_t, andB_f, orB_t, orB_f, notB_t, notB_f, leI_t, leI_f, ltI_t, ltI_f, eqI_t, eqI_f, leN_t, leN_f, eqN_t, eqN_f, eqS_t, eqS_f, eqB_t, eqB_f, catOk_t, leC_t] at g g1
      have g2 : [102, 115, 50, 48, 50, 54, 46].isPrefixOf s = false := g2
      unfold verS verN verE at h
      simp only [show ¬ m < 256 by omega, if_false, g1, g2, Bool.false_eq_true, or_false] at h
      exact h
  · exact h.elim
theorem prefix7 (s : List UInt8) : [102, 115, 50, 48, 50, 54, 46].isPrefixOf s = decide (7 ≤ s.length ∧ s.take 7 = [102, 115, 50, 48, 50, 54, 46]) := by
  rw [Bool.eq_iff_iff, List.isPrefixOf_iff_prefix, decide_eq_true_eq, List.prefix_iff_eq_take]
  constructor
  · intro h
    have := congrArg List.length h
    simp at this
    exact ⟨by omega, h.symm⟩
  · rintro ⟨_, h⟩
    exact h.symm
theorem rver_con {n : Nat} (hn : 1 ≤ n) : ConOk (evalF Tryd.prog cfgN n) 26 verCon := by
  intro vs bs K h
  unfold verCon at h
  split at h
  · rename_i s m
    refine run_of (lp := lpOf []) hn (fun k _ => noCt_ok _) ?_
    rw [rver_vc]
    simp only [br_iff]
    have hp := prefix7 s
    refine ⟨fun g => ?_, fun g => ⟨fun g1 => ?_, fun g1 => ⟨fun g2 => ?_, fun g2 => ?_⟩⟩⟩
    · simp only [br_iff, need_iff, andB_t, andB_f, orB_t, orB_f, notB_t, notB_f, leI_t, leI_f, ltI_t, ltI_f, eqI_t, eqI_f, leN_t, leN_f, eqN_t, eqN_f, eqS_t, eqS_f, eqB_t, eqB_f, catOk_t, leC_t] at g
      simpa [verS, verN, verE, g] using h
    · simp only [br_iff, need_iff, andB_t, andB_f, orB_t, orB_f, notB_t, notB_f, leI_t, leI_f, ltI_t, ltI_f, eqI_t, eqI_f, leN_t, leN_f, eqN_t, eqN_f, eqS_t, eqS_f, eqB_t, eqB_f, catOk_t, leC_t] at g g1
      simpa [verS, verN, verE, g1, show ¬ m < 256 by omega, minI] using h
    · simp only [br_iff, need_iff, andB_t, andB_f, orB_t, orB_f, notB_t, notB_f, leI_t, leI_f, ltI_t, ltI_f, eqI_t, eqI_f, leN_t, leN_f, eqN_t, eqN_f, eqS_t, eqS_f, eqB_t, eqB_f, catOk_t, leC_t, lenS] at g g1 g2
      have h7 : 7 ≤ s.length := by omega
      have hc : cutS s 0 7 = s.take 7 := by simp [cutS]
      unfold verS verN verE at h
      simp only [show ¬ m < 256 by omega, if_false, g1, false_or, hp, h7, true_and, decide_eq_true_eq] at h
      rw [need_iff]
      refine ⟨by simp only [br_iff, need_iff, andB_t, andB_f, orB_t, orB_f, notB_t, notB_f, leI_t, leI_f, ltI_t, ltI_f, eqI_t, eqI_f, leN_t, leN_f, eqN_t, eqN_f, eqS_t, eqS_f, eqB_t, eqB_f, catOk_t, leC_t, lenS]; exact ⟨trivial, by omega⟩, ?_⟩
      simp only [br_iff, need_iff, andB_t, andB_f, orB_t, orB_f, notB_t, notB_f, leI_t, leI_f, ltI_t, ltI_f, eqI_t, eqI_f, leN_t, leN_f, eqN_t, eqN_f, eqS_t, eqS_f, eqB_t, eqB_f, catOk_t, leC_t, hc]
      refine ⟨fun q => ?_, fun q => ?_⟩
      · rw [if_pos q] at h; exact h
      · rw [if_neg q] at h; exact h
    · simp only [br_iff, need_iff, andB_t, andB_f, orB_t, orB_f, notB_t, notB_f, leI_t, leI_f, ltI_t, ltI_f, eqI_t, eqI_f, leN_t, leN_f, eqN_t, eqN_f, eqS_t, eqS_f, eqB_t, eqB_f, catOk_t, leC_t, lenS] at g g1 g2
      have h7 : ¬ 7 ≤ s.length := by omega
      unfold verS verN verE at h
      simp only [show ¬ m < 256 by omega, if_false, g1, false_or, hp, h7, false_and, decide_false, Bool.false_eq_true] at h
      exact h
  · exact h.elim
theorem versions_says {s : List UInt8} {m : Int} : Says 8 [.str s, .int .i64 m] := by
  refine run_of (lp := lpOf []) (ct := ctOf [(25, verCon), (26, verCon), (10, okCon)]) (by omega)
    (fun k hk => ctOf_ok (ctOf_cons (ver_con (by omega)) (ctOf_cons (rver_con (by omega)) (ctOf_cons (ok_con (by omega)) (ctOf_nil _))))) ?_
  rw [lver_vc]
  simp only [br_iff, need_iff, andB_t, andB_f, orB_t, orB_f, notB_t, notB_f, leI_t, leI_f, ltI_t, ltI_f, eqI_t, eqI_f, leN_t, leN_f, eqN_t, eqN_f, eqS_t, eqS_f, eqB_t, eqB_f, catOk_t, leC_t]
  exact ⟨fun _ => ⟨trivial, trivial⟩, fun _ => ⟨fun _ => ⟨fun _ => ⟨fun _ => ⟨trivial, trivial⟩, fun h => absurd rfl h⟩, fun h => absurd rfl h⟩, fun h => absurd rfl h⟩⟩
end Go.Proofs.YtjilikmpfmifkaaDoor
namespace Go.Proofs.YtjilikmpfmifkaaDoor
open Go.RowKit
set_option maxRecDepth 100000
set_option linter.unusedVariables false
set_option linter.unusedSimpArgs false
theorem tx_con {n : Nat} (hn : 2 ≤ n) : ConOk (evalF Tryd.prog cfgN n) 33 txCon := by
  intro vs bs K h
  unfold txCon at h
  split at h
  · simp only [br_iff, need_iff, andB_t, andB_f, orB_t, orB_f, notB_t, notB_f, leI_t, leI_f, ltI_t, ltI_f, eqI_t, eqI_f, leN_t, leN_f, eqN_t, eqN_f, eqS_t, eqS_f, eqB_t, eqB_f, catOk_t, leC_t] at h
    obtain ⟨r, out, e, rfl, rfl⟩ := text_run hn h.1.1 h.1.2
    exact ⟨_, _, e, h.2⟩
  · exact h.elim
theorem rtx_con {n : Nat} (hn : 2 ≤ n) : ConOk (evalF Tryd.prog cfgN n) 34 txCon := by
  intro vs bs K h
  unfold txCon at h
  split at h
  · simp only [br_iff, need_iff, andB_t, andB_f, orB_t, orB_f, notB_t, notB_f, leI_t, leI_f, ltI_t, ltI_f, eqI_t, eqI_f, leN_t, leN_f, eqN_t, eqN_f, eqS_t, eqS_f, eqB_t, eqB_f, catOk_t, leC_t] at h
    obtain ⟨r, out, e, rfl, rfl⟩ := rtext_run hn h.1.1 h.1.2
    exact ⟨_, _, e, h.2⟩
  · exact h.elim
theorem dgt10 {d : Nat} (h : d < 10) : (dgt d).toNat = 48 + d := by
  have hb : Nat.blt d 10 = true := by rw [Nat.blt_eq]; exact h
  simp [dgt, hb]
  omega
theorem digs_bytes : ∀ (k u : Nat), ∀ c ∈ digs 10 k u, 48 ≤ c.toNat ∧ c.toNat ≤ 57
  | 0, u, c, h => by simp [digs] at h
  | k + 1, u, c, h => by
    rcases Nat.lt_or_ge u 10 with hu | hu
    · rw [digs_lt hu] at h
      obtain rfl := List.mem_singleton.1 h
      rw [dgt10 hu]; omega
    · rw [digs_ge hu] at h
      rcases List.mem_append.1 h with h | h
      · exact digs_bytes k _ c h
      · obtain rfl := List.mem_singleton.1 h
        rw [dgt10 (Nat.mod_lt _ (by omega))]
        have := Nat.mod_lt u (show 0 < 10 by omega)
        omega
theorem digs_short {u : Nat} (h : u < 18446744073709551616) : (digs 10 64 u).length ≤ 20 := by
  have hp : (18446744073709551616 : Nat) < 10 ^ 20 := by decide
  have hp2 : (18446744073709551616 : Nat) < 10 ^ 64 := by decide
  rw [digs_fuel (by omega) 64 20 u (by omega) (by omega) (by omega) (by omega)]
  exact digs_len 10 20 u
theorem digs_inj : ∀ (k u v : Nat), u < 10 ^ k → v < 10 ^ k → 1 ≤ k → digs 10 k u = digs 10 k v → u = v
  | 0, _, _, _, _, h, _ => absurd h (by omega)
  | k + 1, u, v, hu, hv, _, h => by
    have step : ∀ {w : Nat}, w < 10 ^ (k + 1) → 10 ≤ w → w / 10 < 10 ^ k ∧ 1 ≤ k := by
      intro w hw h10
      have h1 : w / 10 < 10 ^ k := by rw [Nat.div_lt_iff_lt_mul (by omega), ← Nat.pow_succ]; exact hw
      refine ⟨h1, ?_⟩
      rcases Nat.eq_zero_or_pos k with rfl | h0
      · simp at hw; omega
      · exact h0
    rcases Nat.lt_or_ge u 10 with h1 | h1
    · rcases Nat.lt_or_ge v 10 with h2 | h2
      · rw [digs_lt h1, digs_lt h2] at h
        injection h with h
        have := congrArg UInt8.toNat h
        rw [dgt10 h1, dgt10 h2] at this
        omega
      · rw [digs_lt h1, digs_ge h2] at h
        have := congrArg List.length h
        have hne := List.length_pos_iff.2 (digs_ne_nil (b := 10) (u := v / 10) (step hv h2).2)
        simp at this
        exact absurd this (digs_ne_nil (step hv h2).2)
    · rcases Nat.lt_or_ge v 10 with h2 | h2
      · rw [digs_ge h1, digs_lt h2] at h
        have := congrArg List.length h
        simp at this
        exact absurd this (digs_ne_nil (step hu h1).2)
      · rw [digs_ge h1, digs_ge h2] at h
        obtain ⟨e1, e2⟩ := List.append_inj' h rfl
        have := digs_inj k _ _ (step hu h1).1 (step hv h2).1 (step hu h1).2 e1
        injection e2 with e2
        have e3 := congrArg UInt8.toNat e2
        have m1 := Nat.mod_lt u (show 0 < 10 by omega)
        have m2 := Nat.mod_lt v (show 0 < 10 by omega)
        rw [dgt10 m1, dgt10 m2] at e3
        have d1 := Nat.div_add_mod u 10
        have d2 := Nat.div_add_mod v 10
        omega
theorem tx10 (a : Int) : textF a 10 = textN 10 a := by simp [textF]
theorem tx_bytes (a : Int) : ∀ c ∈ textF a 10, c.toNat = 45 ∨ (48 ≤ c.toNat ∧ c.toNat ≤ 57) := by
  rw [tx10]
  intro c hc
  cases a with
  | ofNat u => exact .inr (digs_bytes 64 u c hc)
  | negSucc u =>
    rcases List.mem_cons.1 hc with rfl | hc
    · exact .inl rfl
    · exact .inr (digs_bytes 64 (u + 1) c hc)
theorem tx_short {a : Int} (h1 : -9223372036854775808 ≤ a) (h2 : a ≤ 9223372036854775807) : (textF a 10).length ≤ 21 := by
  rw [tx10]
  cases a with
  | ofNat u =>
    have := digs_short (u := u) (by simp only [Int.ofNat_eq_natCast] at h2; omega)
    simp only [textN]; omega
  | negSucc u =>
    have := digs_short (u := u + 1) (by omega)
    simp only [textN, List.length_cons]; omega
theorem tx_inj {a b : Int} (ha1 : -9223372036854775808 ≤ a) (ha2 : a ≤ 9223372036854775807) (hb1 : -9223372036854775808 ≤ b) (hb2 : b ≤ 9223372036854775807) (h : textF a 10 = textF b 10) : a = b := by
  rw [tx10, tx10] at h
  have hp : (18446744073709551616 : Nat) < 10 ^ 64 := by decide
  have neg : ∀ {u v : Nat}, digs 10 64 u = 45 :: digs 10 64 v → False := by
    intro u v h
    have := digs_bytes 64 u 45 (by rw [h]; exact List.mem_cons_self ..)
    have e : (45 : UInt8).toNat = 45 := rfl
    omega
  cases a with
  | ofNat u =>
    cases b with
    | ofNat v =>
      have := digs_inj 64 u v (by simp only [Int.ofNat_eq_natCast] at ha2; omega) (by simp only [Int.ofNat_eq_natCast] at hb2; omega) (by omega) h
      rw [this]
    | negSucc v => exact (neg h).elim
  | negSucc u =>
    cases b with
    | ofNat v => exact (neg h.symm).elim
    | negSucc v =>
      simp only [textN] at h
      injection h with _ h
      have := digs_inj 64 (u + 1) (v + 1) (by omega) (by omega) (by omega) h
      congr 1; omega
theorem split_at {x y x' y' : List UInt8} : (∀ c ∈ x, c ≠ 46) → (∀ c ∈ x', c ≠ 46) → x ++ 46 :: y = x' ++ 46 :: y' → x = x' ∧ y = y' := by
  induction x generalizing x' with
  | nil =>
    intro h1 h2 h
    cases x' with
    | nil => simp at h; exact ⟨rfl, h⟩
    | cons c t => simp at h; exact absurd h.1.symm (h2 c (List.mem_cons_self ..))
  | cons a x ih =>
    intro h1 h2 h
    cases x' with
    | nil => simp at h; exact absurd h.1 (h1 a (List.mem_cons_self ..))
    | cons c t =>
      simp only [List.cons_append, List.cons.injEq] at h
      obtain ⟨e1, e2⟩ := ih (fun c hc => h1 c (List.mem_cons_of_mem _ hc)) (fun c hc => h2 c (List.mem_cons_of_mem _ hc)) h.2
      exact ⟨by rw [h.1, e1], e2⟩
theorem tx_nodot (a : Int) : ∀ c ∈ textF a 10, c ≠ 46 := by
  rintro c hc rfl
  have := tx_bytes a 46 hc
  have e : (46 : UInt8).toNat = 46 := rfl
  omega
theorem name_con {n : Nat} (hn : 3 ≤ n) : ConOk (evalF Tryd.prog cfgN n) 13 nameCon := by
  intro vs bs K h
  unfold nameCon at h
  split at h
  · rename_i a b
    simp only [br_iff, need_iff, andB_t, andB_f, orB_t, orB_f, notB_t, notB_f, leI_t, leI_f, ltI_t, ltI_f, eqI_t, eqI_f, leN_t, leN_f, eqN_t, eqN_f, eqS_t, eqS_f, eqB_t, eqB_f, catOk_t, leC_t] at h
    obtain ⟨⟨⟨a1, a2⟩, b1, b2⟩, hK⟩ := h
    refine run_of (lp := lpOf []) (ct := ctOf [(33, txCon)]) (by omega) (fun k hk => ctOf_ok (ctOf_cons (tx_con (by omega)) (ctOf_nil _))) ?_
    rw [nm_vc]
    have l1 := tx_short a1 a2
    have l2 := tx_short b1 b2
    simp only [br_iff, need_iff, andB_t, andB_f, orB_t, orB_f, notB_t, notB_f, leI_t, leI_f, ltI_t, ltI_f, eqI_t, eqI_f, leN_t, leN_f, eqN_t, eqN_f, eqS_t, eqS_f, eqB_t, eqB_f, catOk_t, leC_t]
    refine ⟨⟨a1, a2⟩, by simp; omega, by simp; omega, ⟨b1, b2⟩, by simp [catS]; omega, ?_⟩
    have e : 115 :: catS (catS (textF a 10) [46]) (textF b 10) = nameF a b := rfl
    rw [e]; exact hK
  · exact h.elim
theorem rname_con {n : Nat} (hn : 3 ≤ n) : ConOk (evalF Tryd.prog cfgN n) 14 nameCon := by
  intro vs bs K h
  unfold nameCon at h
  split at h
  · rename_i a b
    simp only [br_iff, need_iff, andB_t, andB_f, orB_t, orB_f, notB_t, notB_f, leI_t, leI_f, ltI_t, ltI_f, eqI_t, eqI_f, leN_t, leN_f, eqN_t, eqN_f, eqS_t, eqS_f, eqB_t, eqB_f, catOk_t, leC_t] at h
    obtain ⟨⟨⟨a1, a2⟩, b1, b2⟩, hK⟩ := h
    refine run_of (lp := lpOf []) (ct := ctOf [(34, txCon)]) (by omega) (fun k hk => ctOf_ok (ctOf_cons (rtx_con (by omega)) (ctOf_nil _))) ?_
    rw [rnm_vc]
    have l1 := tx_short a1 a2
    have l2 := tx_short b1 b2
    simp only [br_iff, need_iff, andB_t, andB_f, orB_t, orB_f, notB_t, notB_f, leI_t, leI_f, ltI_t, ltI_f, eqI_t, eqI_f, leN_t, leN_f, eqN_t, eqN_f, eqS_t, eqS_f, eqB_t, eqB_f, catOk_t, leC_t]
    refine ⟨⟨a1, a2⟩, by simp; omega, by simp; omega, ⟨b1, b2⟩, by simp [catS]; omega, ?_⟩
    have e : 115 :: catS (catS (textF a 10) [46]) (textF b 10) = nameF a b := rfl
    rw [e]; exact hK
  · exact h.elim
theorem name_valid {a b : Int} (a1 : -9223372036854775808 ≤ a) (a2 : a ≤ 9223372036854775807) (b1 : -9223372036854775808 ≤ b) (b2 : b ≤ 9223372036854775807) : validF (nameF a b) = true := by
  have l1 := tx_short a1 a2
  have l2 := tx_short b1 b2
  refine validF_iff.2 ⟨by simp [nameF], by simp [nameF], by simp [nameF], by simp [nameF]; omega, fun c hc => ?_⟩
  have e46 : (46 : UInt8).toNat = 46 := rfl
  have e115 : (115 : UInt8).toNat = 115 := rfl
  rcases List.mem_cons.1 hc with rfl | hc
  · omega
  · rcases List.mem_append.1 hc with hc | hc
    · rcases List.mem_append.1 hc with hc | hc
      · have := tx_bytes a c hc; omega
      · obtain rfl := List.mem_singleton.1 hc
        omega
    · have := tx_bytes b c hc; omega
theorem names_says {a b c d : Int} (ha : -9223372036854775808 ≤ a ∧ a ≤ 9223372036854775807) (hb : -9223372036854775808 ≤ b ∧ b ≤ 9223372036854775807) (hc : -9223372036854775808 ≤ c ∧ c ≤ 9223372036854775807) (hd : -9223372036854775808 ≤ d ∧ d ≤ 9223372036854775807) :
    Says 4 [.agg [.int .i64 a, .int .i64 b], .agg [.int .i64 c, .int .i64 d]] := by
  refine run_of (lp := lpOf []) (ct := ctOf [(13, nameCon), (14, nameCon), (15, valCon), (10, okCon)]) (by omega)
    (fun k hk => ctOf_ok (ctOf_cons (name_con (by omega)) (ctOf_cons (rname_con (by omega)) (ctOf_cons (val_con (by omega)) (ctOf_cons (ok_con (by omega)) (ctOf_nil _)))))) ?_
  rw [lnm_vc]
  have hv := name_valid ha.1 ha.2 hb.1 hb.2
  have l1 := tx_short ha.1 ha.2
  have l2 := tx_short hb.1 hb.2
  have heq : nameF a b = nameF c d ↔ (a = c ∧ b = d) := by
    constructor
    · intro h
      unfold nameF at h
      injection h with _ h
      rw [List.append_assoc, List.append_assoc] at h
      obtain ⟨e1, e2⟩ := split_at (tx_nodot a) (tx_nodot c) h
      exact ⟨tx_inj ha.1 ha.2 hc.1 hc.2 e1, tx_inj hb.1 hb.2 hd.1 hd.2 e2⟩
    · rintro ⟨rfl, rfl⟩; rfl
  simp only [br_iff, need_iff, andB_t, andB_f, orB_t, orB_f, notB_t, notB_f, leI_t, leI_f, ltI_t, ltI_f, eqI_t, eqI_f, leN_t, leN_f, eqN_t, eqN_f, eqS_t, eqS_f, eqB_t, eqB_f, catOk_t, leC_t, hv]
  refine ⟨⟨ha, hb⟩, ⟨hc, hd⟩, ?_⟩
  have ea : 115 :: (textF a 10 ++ [46] ++ textF b 10) = nameF a b := rfl
  have ec : 115 :: (textF c 10 ++ [46] ++ textF d 10) = nameF c d := rfl
  rw [ea, ec]
  have hl : Int.ofNat (nameF a b).length ≤ 4611686018427387904 := by
    simp [nameF]; omega
  have hE : eqS (nameF a b) (nameF c d) = (match decide (a = c) with | false => false | true => decide (b = d) && true) := by
    have h0 : eqS (nameF a b) (nameF c d) = decide (a = c ∧ b = d) := by
      rw [Bool.eq_iff_iff, decide_eq_true_eq, ← heq]; simp [eqS, strEq]
    rw [h0]
    by_cases h1 : a = c <;> by_cases h2 : b = d <;> simp [h1, h2]
  exact ⟨⟨ha, hb⟩, fun _ => ⟨hl, fun _ => ⟨fun _ => ⟨trivial, trivial⟩, fun h => absurd hE h⟩, fun h => by simp [hv] at h⟩, fun h => absurd rfl h⟩
def nmSh : List Sh := [.rep 2 (.int .i64), .rep 2 (.int .i64)]
theorem fits_two {k : IntKind} {vs : List V} (h : Fits (.rep 2 (.int k)) vs) : ∃ a b, vs = [.int k a, .int k b] ∧ (k.min ≤ a ∧ a ≤ k.max) ∧ k.min ≤ b ∧ b ≤ k.max := by
  obtain ⟨ps, rfl, hl, hp⟩ := h
  match ps, hl with
  | [p, q], _ =>
    obtain ⟨a, rfl, a1, a2⟩ := hp p (by simp)
    obtain ⟨b, rfl, b1, b2⟩ := hp q (by simp)
    exact ⟨a, b, rfl, ⟨a1, a2⟩, b1, b2⟩
theorem names_fits {us : List V} (h : FitsAll nmSh us) : Says 4 us := by
  obtain ⟨v, r, rfl, ⟨vs, rfl, h1⟩, v2, r2, rfl, ⟨vs2, rfl, h2⟩, rfl⟩ := h
  obtain ⟨a, b, rfl, ha, hb⟩ := fits_two h1
  obtain ⟨c, d, rfl, hc, hd⟩ := fits_two h2
  exact names_says ha hb hc hd
end Go.Proofs.YtjilikmpfmifkaaDoor
