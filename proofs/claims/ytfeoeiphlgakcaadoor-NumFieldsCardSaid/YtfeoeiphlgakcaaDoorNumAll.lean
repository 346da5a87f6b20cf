/- The evaluator's knobs for this program. -/
import Derived.Test.YtfeoeiphlgakcaaDoorEvE
import Derived.Test.YtfeoeiphlgakcaaDoorEvC
namespace Go.Proofs.YtfeoeiphlgakcaaDoor
open Go.RowKit
/-- The live slots at the loops' heads. -/
def keepN : List (Nat × Nat × List Nat) := [(17, 4, [0, 1, 12, 13]), (14, 7, [0, 1, 2, 8, 31, 32]), (15, 7, [0, 1, 2, 8, 9]), (16, 4, [0, 200003, 4, 7, 8]),
  (18, 4, [0, 200003, 4, 5]), (24, 2, [0, 1, 5]), (12, 4, [2, 7]), (7, 8, [3, 4, 18, 19])]
def cfgN : Cfg where
  glob := glT
  rows := fun _ => none
  prim := fun f => bif Nat.beq f 22 then some fiPrim else bif Nat.beq f 25 then some repPrim else none
  ref := fun _ => false
  self := fun _ => false
  bstr := fun _ => false
  clone := fun _ => false
  res := fun f => bif Nat.beq f 16 || Nat.beq f 18 then 1 else 0
  keep := keepOf keepN
theorem cfgN_ok : CfgOk Tryd.prog cfgN where
  prim := fun f g e => by
    simp only [cfgN, Bool.cond_eq_ite] at e
    split at e
    · rename_i h
      have h := Nat.eq_of_beq_eq_true h
      subst h; cases e
      exact @fi_prim
    · split at e
      · rename_i h
        have h := Nat.eq_of_beq_eq_true h
        subst h; cases e
        exact @rep_prim _
      · cases e
  self := fun f e => by cases e
  clone := fun f e => by cases e
  bstr := fun f e => by cases e
theorem awake_ev {n : Nat} (h : 12 ≤ n) : evalF Tryd.prog cfgN n 13 [] [] = some (.bool true, []) := by
  obtain ⟨k, rfl⟩ : ∃ k, n = k + 12 := ⟨n - 12, by omega⟩
  kernel_rfl
end Go.Proofs.YtfeoeiphlgakcaaDoor
namespace Go.Proofs.YtfeoeiphlgakcaaDoor
open Go.RowKit
set_option maxRecDepth 100000
set_option linter.unusedVariables false
set_option linter.unusedSimpArgs false
structure dgC where
  b : Int
structure dgX where
  n : Int
  s : List UInt8
def dgSt (c : dgC) (x : dgX) : St := ⟨[(0, .int .i64 x.n), (1, .int .i64 c.b), (5, .str x.s)], []⟩
def dgUn (s : St) : Option (dgC × dgX) :=
  match s with
  | ⟨[(q0, .int .i64 n), (q1, .int .i64 b), (q2, .str s)], []⟩ => bif Nat.beq q0 0 && Nat.beq q1 1 && Nat.beq q2 5 then some (⟨b⟩, ⟨n, s⟩) else none
  | _ => none
def dgL (inv : dgC → dgX → dgX → Nat → Prop) : LoopS where
  C := dgC
  X := dgX
  st := dgSt
  un := dgUn
  ok := by
    intro s c x h
    unfold dgUn at h
    split at h
    · simp only [Bool.cond_eq_ite] at h
      split at h
      · rename_i hg
        simp only [Bool.and_eq_true, Nat.beq_eq] at hg
        obtain ⟨⟨rfl, rfl⟩, rfl⟩ := hg
        cases h
        rfl
      · cases h
    · cases h
  inv := inv

def dg_vc_1 (n b : Int) (I : dgC → dgX → dgX → Nat → Prop) (K : V → List Bk → Prop) (x4 : (dgL I).X) (m5 : Nat) : Prop :=
  (
    need (notB (eqI b 0)) (
    need (andB (leI 0 (addI IntKind.i64 (subI IntKind.i64 0 (x4.1.tmod b)) 1)) (leI (addI IntKind.i64 (subI IntKind.i64 0 (x4.1.tmod b)) 1) 16)) (
    need (andB (leI 0 (subI IntKind.i64 0 (x4.1.tmod b))) (leI (subI IntKind.i64 0 (x4.1.tmod b)) (addI IntKind.i64 (subI IntKind.i64 0 (x4.1.tmod b)) 1))) (
    need (catOk (cutS [48, 49, 50, 51, 52, 53, 54, 55, 56, 57, 97, 98, 99, 100, 101, 102] (subI IntKind.i64 0 (x4.1.tmod b)) (addI IntKind.i64 (subI IntKind.i64 0 (x4.1.tmod b)) 1)) x4.2) (
    need (notB (eqI b 0)) (
    ((dgC.mk b : (dgL I).C) = dgC.mk b) ∧ (
    ∃ m'6 : Nat, (m'6 < m5) ∧ (
    I (dgC.mk b) (dgX.mk n []) (dgX.mk (quoI IntKind.i64 x4.1 b) (catS (cutS [48, 49, 50, 51, 52, 53, 54, 55, 56, 57, 97, 98, 99, 100, 101, 102] (subI IntKind.i64 0 (x4.1.tmod b)) (addI IntKind.i64 (subI IntKind.i64 0 (x4.1.tmod b)) 1)) x4.2)) m'6))))))))
theorem dg_vc (n b : Int) (I : dgC → dgX → dgX → Nat → Prop) (K : V → List Bk → Prop) : vcF Tryd.prog cfgN (ctOf []) (lpOf [(2, dgL I)]) 24 [.int .i64 n, .int .i64 b] [] K = (
  (∃ m4 : Nat, (m4 < 18446744073709551616) ∧ (
  I (dgC.mk b) (dgX.mk n []) (dgX.mk n []) m4)) ∧ (
  ∀ x4 : (dgL I).X, ∀ m5 : Nat, (I (dgC.mk b) (dgX.mk n []) x4 m5) → (
  br (ltI x4.1 0) (dg_vc_1 n b I K x4 m5) (
    br (eqS x4.2 []) (dg_vc_1 n b I K x4 m5) (
      K (V.str x4.2) []))))) := by kernel_rfl

theorem digs_len (b : Nat) : ∀ (k u : Nat), (digs b k u).length ≤ k
  | 0, u => by simp [digs]
  | k + 1, u => by
    rcases Nat.lt_or_ge u b with h | h
    · rw [digs_lt h]; simp
    · rw [digs_ge h]
      have := digs_len b k (u / b)
      simp; omega
theorem hex_cut : ∀ d : Fin 16, cutS [48, 49, 50, 51, 52, 53, 54, 55, 56, 57, 97, 98, 99, 100, 101, 102] (d.val : Int) ((d.val + 1 : Nat) : Int) = [dgt d.val] := by decide +kernel
def dgI (b : Nat) (T : List UInt8) (x : dgX) (m : Nat) : Prop := ∃ (u f : Nat), x.n = -(u : Int) ∧ u ≤ 9223372036854775808 ∧ u < b ^ f ∧ 1 ≤ f ∧ m = u + (if x.s = [] then 1 else 0) ∧ (x.s = [] ∨ 0 < u → digs b f u ++ x.s = T) ∧ (x.s ≠ [] → u = 0 → x.s = T) ∧ x.s.length ≤ 64
theorem dg_step {b u f : Nat} (hb : 2 ≤ b) (hf : u < b ^ f) (hf1 : 1 ≤ f) {s T : List UInt8} (h : digs b f u ++ s = T) (hu : b ≤ u) : u / b < b ^ (f - 1) ∧ 1 ≤ f - 1 ∧ digs b (f - 1) (u / b) ++ dgt (u % b) :: s = T := by
  obtain ⟨g, rfl⟩ : ∃ g, f = g + 1 := ⟨f - 1, by omega⟩
  have h1 : u / b < b ^ g := by rw [Nat.div_lt_iff_lt_mul (by omega), ← Nat.pow_succ]; exact hf
  refine ⟨h1, ?_, ?_⟩
  · rcases Nat.eq_zero_or_pos g with rfl | h0
    · simp at hf; omega
    · exact h0
  · rw [digs_ge hu] at h
    rw [← h]; simp
theorem dg_run {n : Nat} (hn : 1 ≤ n) {a b : Int} (h1 : a ≤ 0) (h2 : -9223372036854775808 ≤ a) (h3 : 2 ≤ b) (h4 : b ≤ 16) : ∃ r out, evalF Tryd.prog cfgN n 24 [.int .i64 a, .int .i64 b] [] = some (r, out) ∧ r = .str (digs b.toNat 64 a.natAbs) ∧ out = [] := by
  obtain ⟨B, rfl⟩ : ∃ B : Nat, b = (B : Int) := ⟨b.toNat, by omega⟩
  refine run_of (lp := lpOf [(2, dgL fun _ _ x m => dgI B (digs B 64 a.natAbs) x m)]) hn (fun k _ => noCt_ok _) ?_
  rw [dg_vc]
  have hp : (9223372036854775808 : Nat) < 2 ^ 64 := by decide
  have hp2 : (2 : Nat) ^ 64 ≤ B ^ 64 := Nat.pow_le_pow_left (by omega) 64
  refine ⟨⟨a.natAbs + 1, by omega, a.natAbs, 64, (by simp only; omega), by omega, by omega, by omega, by simp, by simp, by simp, by simp⟩, ?_⟩
  rintro ⟨xn, s⟩ m ⟨u, f, rfl, hu, hf, hf1, hm, hT, hT0, hs⟩
  simp only at hm hT hT0 hs
  unfold dg_vc_1
  have hB : 0 < B := by omega
  have hmod : u % B < B := Nat.mod_lt _ hB
  have e1 : (-(u : Int)).tmod (B : Int) = -((u % B : Nat) : Int) := by rw [Int.neg_tmod]; rfl
  have e2 : subI .i64 0 (-((u % B : Nat) : Int)) = ((u % B : Nat) : Int) := by rw [subI_i64 (by omega) (by omega)]; omega
  have e3 : addI .i64 ((u % B : Nat) : Int) 1 = ((u % B + 1 : Nat) : Int) := by rw [addI_i64 (by omega) (by omega)]; omega
  have e4 : quoI .i64 (-(u : Int)) (B : Int) = -((u / B : Nat) : Int) := by
    unfold quoI
    rw [Int.neg_tdiv]
    have := Nat.div_le_self u B
    have e : (u : Int).tdiv (B : Int) = ((u / B : Nat) : Int) := rfl
    rw [e]
    generalize u / B = q at this ⊢
    exact wrap64 (by omega) (by omega)
  have e5 : cutS [48, 49, 50, 51, 52, 53, 54, 55, 56, 57, 97, 98, 99, 100, 101, 102] ((u % B : Nat) : Int) ((u % B + 1 : Nat) : Int) = [dgt (u % B)] := hex_cut ⟨u % B, by omega⟩
  simp only [e1, e2, e3, e4, e5]
  have key : (s = [] ∨ 0 < u) → need (notB (eqI (B : Int) 0)) (need (andB (leI 0 ((u % B + 1 : Nat) : Int)) (leI ((u % B + 1 : Nat) : Int) 16)) (need (andB (leI 0 ((u % B : Nat) : Int)) (leI ((u % B : Nat) : Int) ((u % B + 1 : Nat) : Int)))
      (need (catOk [dgt (u % B)] s) (need (notB (eqI (B : Int) 0)) (True ∧ ∃ m' : Nat, m' < m ∧ dgI B (digs B 64 a.natAbs) (dgX.mk (-((u / B : Nat) : Int)) (catS [dgt (u % B)] s)) m'))))) := by
    intro hor
    have hTT := hT hor
    have hlen : s.length < 64 := by
      have h64 := digs_len B 64 a.natAbs
      rw [← hTT] at h64
      have := digs_ne_nil (b := B) (u := u) hf1
      have : 1 ≤ (digs B f u).length := List.length_pos_iff.2 this
      simp at h64; omega
    simp only [need_iff]
    refine ⟨by simp [notB, eqI]; omega, by simp [andB, leI]; omega, by simp [andB, leI]; omega, by rw [catOk_t]; simp; omega, by simp [notB, eqI]; omega, trivial, u / B, ?_, ?_⟩
    · rw [hm]
      rcases hor with rfl | h0
      · have := Nat.div_le_self u B
        simp; omega
      · have := Nat.div_lt_self h0 (show 1 < B by omega)
        omega
    · rcases Nat.lt_or_ge u B with hlt | hge
      · refine ⟨0, 1, ?_, by omega, by simp; omega, by omega, ?_, ?_, ?_, ?_⟩
        · simp [Nat.div_eq_of_lt hlt]
        · simp [Nat.div_eq_of_lt hlt, catS]
        · simp [catS]
        · intro _ _
          obtain ⟨g, rfl⟩ : ∃ g, f = g + 1 := ⟨f - 1, by omega⟩
          rw [digs_lt hlt] at hTT
          rw [Nat.mod_eq_of_lt hlt]
          exact hTT
        · simp [catS]; omega
      · obtain ⟨q1, q2, q3⟩ := dg_step (by omega) hf hf1 hTT hge
        have := Nat.div_le_self u B
        have := Nat.div_pos hge hB
        refine ⟨u / B, f - 1, rfl, by omega, q1, q2, by simp [catS], fun _ => q3, fun _ h0 => by omega, by simp [catS]; omega⟩
  rw [br_iff]
  refine ⟨fun hlt => key (.inr (by simp [ltI] at hlt; omega)), fun hge => ?_⟩
  rw [br_iff]
  refine ⟨fun he => key (.inl (by simpa [eqS, strEq] using he)), fun he => ?_⟩
  have h0 : u = 0 := by simp [ltI] at hge; omega
  have hne : s ≠ [] := by simpa [eqS, strEq] using he
  exact ⟨by rw [hT0 hne h0]; rfl, trivial⟩
theorem tx_vc (n b : Int) (K : V → List Bk → Prop) : vcF Tryd.prog cfgN (ctOf [(21, inlC Tryd.prog cfgN (ctOf []) 21)]) (lpOf []) 9 [.int .i64 n, .int .i64 b] [] K = (
  br (eqI b 8) (
    need (andB (inI64 n) (orB (orB (eqI b 8) (eqI b 16)) (eqI b 10))) (
    K (V.str (textN b.toNat n)) [])) (
    br (eqI b 10) (
      need (andB (inI64 n) (orB (orB (eqI b 8) (eqI b 16)) (eqI b 10))) (
      K (V.str (textN b.toNat n)) [])) (
      br (notB (eqI b 16)) (
        K (V.str []) []) (
        need (andB (inI64 n) (orB (orB (eqI b 8) (eqI b 16)) (eqI b 10))) (
        K (V.str (textN b.toNat n)) []))))) := by kernel_rfl

def dgCon : Con := fun vs bs K => match vs, bs with
  | [.int .i64 n, .int .i64 b], [] => need (andB (leI n 0) (leI (-9223372036854775808) n)) (need (andB (leI 2 b) (leI b 16)) (K (.str (digs b.toNat 64 n.natAbs)) []))
  | _, _ => False

def rt_vc_1 (n b : Int) (K : V → List Bk → Prop) : Prop :=
  (
    br (ltI n 0) (
      need (andB (leI n 0) (leI (-9223372036854775808) n)) (
      need (andB (leI 2 b) (leI b 16)) (
      need (catOk [45] (digs b.toNat 64 n.natAbs)) (
      K (V.str (45 :: digs b.toNat 64 n.natAbs)) [])))) (
      need (andB (leI (subI IntKind.i64 0 n) 0) (leI (-9223372036854775808) (subI IntKind.i64 0 n))) (
      need (andB (leI 2 b) (leI b 16)) (
      K (V.str (digs b.toNat 64 (subI IntKind.i64 0 n).natAbs)) []))))
theorem rt_vc (n b : Int) (K : V → List Bk → Prop) : vcF Tryd.prog cfgN (ctOf [(23, inlC Tryd.prog cfgN (ctOf []) 23), (24, dgCon)]) (lpOf []) 10 [.int .i64 n, .int .i64 b] [] K = (
  br (eqI b 8) (rt_vc_1 n b K) (
    br (eqI b 10) (rt_vc_1 n b K) (
      br (notB (eqI b 16)) (
        K (V.str []) []) (rt_vc_1 n b K)))) := by kernel_rfl

theorem dg_con {n : Nat} (hn : 1 ≤ n) : ConOk (evalF Tryd.prog cfgN n) 24 dgCon := by
  intro vs bs K h
  unfold dgCon at h
  split at h
  · rename_i a b
    simp only [need_iff, andB, leI, Bool.and_eq_true, decide_eq_true_eq] at h
    obtain ⟨⟨h1, h2⟩, ⟨h3, h4⟩, hK⟩ := h
    obtain ⟨r, out, e, rfl, rfl⟩ := dg_run hn h1 h2 h3 h4
    exact ⟨_, _, e, hK⟩
  · exact h.elim
/-- A number's text; the empty text if the base is none. -/
def textF (a b : Int) : List UInt8 := if b = 8 ∨ b = 10 ∨ b = 16 then textN b.toNat a else []
theorem text_run {n : Nat} (hn : 2 ≤ n) {a b : Int} (h1 : -9223372036854775808 ≤ a) (h2 : a ≤ 9223372036854775807) : ∃ r out, evalF Tryd.prog cfgN n 9 [.int .i64 a, .int .i64 b] [] = some (r, out) ∧ r = .str (textF a b) ∧ out = [] := by
  refine run_of (lp := lpOf []) (ct := ctOf [(21, inlC Tryd.prog cfgN (ctOf []) 21)]) (by omega) (fun k hk => ctOf_ok (ctOf_cons (inl_ok (by omega) fun _ _ => noCt_ok _) (ctOf_nil _))) ?_
  rw [tx_vc]
  have hin : inI64 a = true := by simp [inI64, h1, h2]
  simp only [br_iff, need_iff, hin, andB, orB, notB, eqI, Bool.true_and, Bool.or_eq_true, Bool.not_eq_true', decide_eq_true_eq, decide_eq_false_iff_not, Bool.not_eq_false']
  refine ⟨fun h => ⟨by omega, by simp [textF, h], trivial⟩, fun h => ⟨fun h' => ⟨by omega, by simp [textF, h'], trivial⟩, fun h' => ⟨fun h'' => ⟨by simp [textF, h, h', h''], trivial⟩, fun h'' => ⟨by omega, by simp [textF, h''], trivial⟩⟩⟩⟩
theorem rtext_run {n : Nat} (hn : 2 ≤ n) {a b : Int} (h1 : -9223372036854775808 ≤ a) (h2 : a ≤ 9223372036854775807) : ∃ r out, evalF Tryd.prog cfgN n 10 [.int .i64 a, .int .i64 b] [] = some (r, out) ∧ r = .str (textF a b) ∧ out = [] := by
  refine run_of (lp := lpOf []) (ct := ctOf [(23, inlC Tryd.prog cfgN (ctOf []) 23), (24, dgCon)]) (by omega) (fun k hk => ctOf_ok (ctOf_cons (inl_ok (by omega) fun _ _ => noCt_ok _) (ctOf_cons (dg_con (by omega)) (ctOf_nil _)))) ?_
  rw [rt_vc]
  have key : (b = 8 ∨ b = 10 ∨ b = 16) → br (ltI a 0) (need (andB (leI a 0) (leI (-9223372036854775808) a)) (need (andB (leI 2 b) (leI b 16)) (need (catOk [45] (digs b.toNat 64 a.natAbs)) (V.str (45 :: digs b.toNat 64 a.natAbs) = .str (textF a b) ∧ ([] : List Bk) = []))))
      (need (andB (leI (subI IntKind.i64 0 a) 0) (leI (-9223372036854775808) (subI IntKind.i64 0 a))) (need (andB (leI 2 b) (leI b 16)) (V.str (digs b.toNat 64 (subI IntKind.i64 0 a).natAbs) = .str (textF a b) ∧ ([] : List Bk) = []))) := by
    intro hb
    have hx : textF a b = textN b.toNat a := by simp [textF, hb]
    have hlen := digs_len b.toNat 64 a.natAbs
    simp only [br_iff, need_iff, andB_t, andB_f, orB_t, orB_f, notB_t, notB_f, leI_t, leI_f, ltI_t, ltI_f, eqI_t, eqI_f, leN_t, leN_f, eqN_t, eqN_f, eqS_t, eqS_f, eqB_t, eqB_f, catOk_t, leC_t, lenS]
    refine ⟨fun h => ⟨by omega, by omega, by simp; omega, ?_, trivial⟩, fun h => ?_⟩
    · rw [hx]
      cases a with
      | ofNat u => exact absurd h (by simp)
      | negSucc u => rfl
    · have hs : subI .i64 0 a = -a := by rw [subI_i64 (by omega) (by omega)]; omega
      rw [hs]
      refine ⟨by omega, by omega, ?_, trivial⟩
      rw [hx]
      cases a with
      | ofNat u => simp [textN]
      | negSucc u => exact absurd (Int.negSucc_lt_zero u) (by omega)
  rw [br_iff]
  refine ⟨fun h => key (.inl (by simpa [eqI] using h)), fun h => ?_⟩
  rw [br_iff]
  refine ⟨fun h' => key (.inr (.inl (by simpa [eqI] using h'))), fun h' => ?_⟩
  rw [br_iff]
  refine ⟨fun h'' => ⟨?_, rfl⟩, fun h'' => key (.inr (.inr (by simpa [notB, eqI] using h'')))⟩
  simp only [notB, eqI, Bool.not_eq_true', decide_eq_false_iff_not] at h h' h''
  simp [textF, h, h', h'']
end Go.Proofs.YtfeoeiphlgakcaaDoor
namespace Go.Proofs.YtfeoeiphlgakcaaDoor
open Go.RowKit
set_option maxRecDepth 100000
set_option linter.unusedVariables false
set_option linter.unusedSimpArgs false
def txCon : Con := fun vs bs K => match vs, bs with
  | [.int .i64 n, .int .i64 b], [] => need (andB (leI (-9223372036854775808) n) (leI n 9223372036854775807)) (K (.str (textF n b)) [])
  | _, _ => False

structure pdC where
  w : Int
structure pdX where
  s : List UInt8
def pdSt (c : pdC) (x : pdX) : St := ⟨[(2, .int .i64 c.w), (7, .str x.s)], []⟩
def pdUn (s : St) : Option (pdC × pdX) :=
  match s with
  | ⟨[(q0, .int .i64 w), (q1, .str s)], []⟩ => bif Nat.beq q0 2 && Nat.beq q1 7 then some (⟨w⟩, ⟨s⟩) else none
  | _ => none
def pdL (inv : pdC → pdX → pdX → Nat → Prop) : LoopS where
  C := pdC
  X := pdX
  st := pdSt
  un := pdUn
  ok := by
    intro s c x h
    unfold pdUn at h
    split at h
    · simp only [Bool.cond_eq_ite] at h
      split at h
      · rename_i hg
        simp only [Bool.and_eq_true, Nat.beq_eq] at hg
        obtain ⟨rfl, rfl⟩ := hg
        cases h
        rfl
      · cases h
    · cases h
  inv := inv

theorem pad_vc (n b w : Int) (K : V → List Bk → Prop) : vcF Tryd.prog cfgN (ctOf [(9, txCon)]) (lpOf []) 11 [.int .i64 n, .int .i64 b, .int .i64 w] [] K = (
  need (andB (leI (-9223372036854775808) n) (leI n 9223372036854775807)) (
  br (ltI n 0) (
    K (V.str []) []) (
    br (eqS (textF n b) []) (
      K (V.str []) []) (
      need (andB (andB (leI 0 (maxI (subI IntKind.i64 (maxI (minI w 64) 0) (lenS (textF n b))) 0)) (leI (maxI (subI IntKind.i64 (maxI (minI w 64) 0) (lenS (textF n b))) 0) 9223372036854775807)) (leN (1 * (maxI (subI IntKind.i64 (maxI (minI w 64) 0) (lenS (textF n b))) 0).toNat) 140737488355328)) (
      need (catOk (Lib.repeatL (ByteArray.mk #[48]).data.toList (maxI (subI IntKind.i64 (maxI (minI w 64) 0) (lenS (textF n b))) 0).toNat) (textF n b)) (
      K (V.str (catS (Lib.repeatL (ByteArray.mk #[48]).data.toList (maxI (subI IntKind.i64 (maxI (minI w 64) 0) (lenS (textF n b))) 0).toNat) (textF n b))) [])))))) := by kernel_rfl

def rpad_vc_1 (n b w : Int) (I : pdC → pdX → pdX → Nat → Prop) (K : V → List Bk → Prop) : Prop :=
  (
      need (andB (leI (-9223372036854775808) n) (leI n 9223372036854775807)) (
      (∃ m5 : Nat, (m5 < 18446744073709551616) ∧ (
      I (pdC.mk w) (pdX.mk (textF n b)) (pdX.mk (textF n b)) m5)) ∧ (
      ∀ x5 : (pdL I).X, ∀ m6 : Nat, (I (pdC.mk w) (pdX.mk (textF n b)) x5 m6) → (
      br (ltI (lenS x5.1) w) (
        br (ltI (lenS x5.1) 64) (
          need (catOk [48] x5.1) (
          ((pdC.mk w : (pdL I).C) = pdC.mk w) ∧ (
          ∃ m'7 : Nat, (m'7 < m6) ∧ (
          I (pdC.mk w) (pdX.mk (textF n b)) (pdX.mk (48 :: x5.1)) m'7)))) (
          K (V.str x5.1) [])) (
        K (V.str x5.1) [])))))
theorem rpad_vc (n b w : Int) (I : pdC → pdX → pdX → Nat → Prop) (K : V → List Bk → Prop) : vcF Tryd.prog cfgN (ctOf [(10, txCon), (23, inlC Tryd.prog cfgN (ctOf []) 23)]) (lpOf [(4, pdL I)]) 12 [.int .i64 n, .int .i64 b, .int .i64 w] [] K = (
  br (ltI n 0) (
    K (V.str []) []) (
    br (eqI b 8) (rpad_vc_1 n b w I K) (
      br (eqI b 10) (rpad_vc_1 n b w I K) (
        br (notB (eqI b 16)) (
          K (V.str []) []) (rpad_vc_1 n b w I K))))) := by kernel_rfl

theorem repeatL_one (c : UInt8) : ∀ k, Lib.repeatL [c] k = List.replicate k c
  | 0 => rfl
  | k + 1 => by simp [Lib.repeatL, repeatL_one c k, List.replicate_succ]
theorem textF_len (a b : Int) : (textF a b).length ≤ 65 := by
  unfold textF
  split
  · cases a with
    | ofNat u => have := digs_len b.toNat 64 u; simp only [textN]; omega
    | negSucc u => have := digs_len b.toNat 64 (u + 1); simp only [textN, List.length_cons]; omega
  · simp
theorem textN_ne (b : Nat) (a : Int) : textN b a ≠ [] := by
  cases a with
  | ofNat u => exact digs_ne_nil (by omega)
  | negSucc u => simp [textN]
theorem textF_nil {a b : Int} : textF a b = [] ↔ ¬ (b = 8 ∨ b = 10 ∨ b = 16) := by
  unfold textF
  split
  · rename_i h
    exact ⟨fun e => absurd e (textN_ne _ _), fun e => absurd h e⟩
  · rename_i h
    exact ⟨fun _ => h, fun _ => rfl⟩
theorem tx_con {n : Nat} (hn : 2 ≤ n) : ConOk (evalF Tryd.prog cfgN n) 9 txCon := by
  intro vs bs K h
  unfold txCon at h
  split at h
  · simp only [br_iff, need_iff, andB_t, andB_f, orB_t, orB_f, notB_t, notB_f, leI_t, leI_f, ltI_t, ltI_f, eqI_t, eqI_f, leN_t, leN_f, eqN_t, eqN_f, eqS_t, eqS_f, eqB_t, eqB_f, catOk_t, leC_t] at h
    obtain ⟨r, out, e, rfl, rfl⟩ := text_run hn h.1.1 h.1.2
    exact ⟨_, _, e, h.2⟩
  · exact h.elim
theorem rtx_con {n : Nat} (hn : 2 ≤ n) : ConOk (evalF Tryd.prog cfgN n) 10 txCon := by
  intro vs bs K h
  unfold txCon at h
  split at h
  · simp only [br_iff, need_iff, andB_t, andB_f, orB_t, orB_f, notB_t, notB_f, leI_t, leI_f, ltI_t, ltI_f, eqI_t, eqI_f, leN_t, leN_f, eqN_t, eqN_f, eqS_t, eqS_f, eqB_t, eqB_f, catOk_t, leC_t] at h
    obtain ⟨r, out, e, rfl, rfl⟩ := rtext_run hn h.1.1 h.1.2
    exact ⟨_, _, e, h.2⟩
  · exact h.elim
def padN (a b w : Int) : Nat := (max (max (min w 64) 0 - (textF a b).length) 0).toNat
def padF (a b w : Int) : List UInt8 := if a < 0 ∨ textF a b = [] then [] else List.replicate (padN a b w) 48 ++ textF a b
theorem pad_run {n : Nat} (hn : 3 ≤ n) {a b w : Int} (h1 : -9223372036854775808 ≤ a) (h2 : a ≤ 9223372036854775807) : ∃ r out, evalF Tryd.prog cfgN n 11 [.int .i64 a, .int .i64 b, .int .i64 w] [] = some (r, out) ∧ r = .str (padF a b w) ∧ out = [] := by
  refine run_of (lp := lpOf []) (ct := ctOf [(9, txCon)]) (by omega) (fun k hk => ctOf_ok (ctOf_cons (tx_con (by omega)) (ctOf_nil _))) ?_
  rw [pad_vc]
  have hl := textF_len a b
  have hs : subI .i64 (maxI (minI w 64) 0) (lenS (textF a b)) = max (min w 64) 0 - (textF a b).length := by
    unfold maxI minI lenS
    rw [subI_i64 (by omega) (by omega)]
  have e1 : maxI (subI .i64 (maxI (minI w 64) 0) (lenS (textF a b))) 0 = (padN a b w : Int) := by
    rw [hs]; unfold maxI padN; omega
  have hp : padN a b w ≤ 64 := by unfold padN; omega
  rw [e1]
  have e2 : Lib.repeatL (ByteArray.mk #[48]).data.toList ((padN a b w : Int)).toNat = List.replicate (padN a b w) 48 := repeatL_one 48 _
  simp only [e2, br_iff, need_iff, andB_t, andB_f, orB_t, orB_f, notB_t, notB_f, leI_t, leI_f, ltI_t, ltI_f, eqI_t, eqI_f, leN_t, leN_f, eqN_t, eqN_f, eqS_t, eqS_f, eqB_t, eqB_f, catOk_t, leC_t]
  refine ⟨⟨h1, h2⟩, fun h => ⟨by simp [padF, h], trivial⟩, fun h => ⟨fun h' => ⟨by simp [padF, h'], trivial⟩, fun h' => ⟨⟨⟨by omega, by omega⟩, by simp; omega⟩, by simp; omega, ?_, trivial⟩⟩⟩
  unfold padF
  rw [if_neg (by rintro (h'' | h''); omega; exact h' h'')]
  rfl
def pdI (a b w : Int) (x : pdX) (m : Nat) : Prop := ∃ k, x.s = List.replicate k 48 ++ textF a b ∧ k + m = padN a b w
theorem rpad_run {n : Nat} (hn : 3 ≤ n) {a b w : Int} (h1 : -9223372036854775808 ≤ a) (h2 : a ≤ 9223372036854775807) : ∃ r out, evalF Tryd.prog cfgN n 12 [.int .i64 a, .int .i64 b, .int .i64 w] [] = some (r, out) ∧ r = .str (padF a b w) ∧ out = [] := by
  refine run_of (lp := lpOf [(4, pdL fun _ _ x m => pdI a b w x m)]) (ct := ctOf [(10, txCon), (23, inlC Tryd.prog cfgN (ctOf []) 23)]) (by omega) (fun k hk => ctOf_ok (ctOf_cons (rtx_con (by omega)) (ctOf_cons (inl_ok (by omega) fun _ _ => noCt_ok _) (ctOf_nil _)))) ?_
  rw [rpad_vc]
  have hl := textF_len a b
  have hp : padN a b w ≤ 64 := by unfold padN; omega
  have key : 0 ≤ a → (b = 8 ∨ b = 10 ∨ b = 16) → rpad_vc_1 a b w (fun _ _ x m => pdI a b w x m) (fun r out => r = .str (padF a b w) ∧ out = []) := by
    intro ha hb
    have hne : textF a b ≠ [] := fun h => textF_nil.1 h hb
    unfold rpad_vc_1
    rw [need_iff]
    refine ⟨by simp only [br_iff, need_iff, andB_t, andB_f, orB_t, orB_f, notB_t, notB_f, leI_t, leI_f, ltI_t, ltI_f, eqI_t, eqI_f, leN_t, leN_f, eqN_t, eqN_f, eqS_t, eqS_f, eqB_t, eqB_f, catOk_t, leC_t]; exact ⟨h1, h2⟩, ⟨padN a b w, by omega, 0, by simp, by omega⟩, ?_⟩
    rintro ⟨s⟩ m ⟨k, rfl, hk⟩
    have e : padF a b w = List.replicate (padN a b w) 48 ++ textF a b := by unfold padF; rw [if_neg (by rintro (h | h); omega; exact hne h)]
    have hlen : lenS (List.replicate k 48 ++ textF a b) = (k : Int) + (textF a b).length := by simp [lenS]
    have done : m = 0 → V.str (List.replicate k 48 ++ textF a b) = .str (padF a b w) ∧ ([] : List Bk) = [] := by
      intro h0
      have : k = padN a b w := by omega
      rw [e, this]; exact ⟨rfl, rfl⟩
    simp only [br_iff, need_iff, andB_t, andB_f, orB_t, orB_f, notB_t, notB_f, leI_t, leI_f, ltI_t, ltI_f, eqI_t, eqI_f, leN_t, leN_f, eqN_t, eqN_f, eqS_t, eqS_f, eqB_t, eqB_f, catOk_t, leC_t, hlen]
    refine ⟨fun h => ⟨fun h' => ⟨by simp; omega, trivial, m - 1, ?_, k + 1, rfl, ?_⟩, fun h' => ?_⟩, fun h => ?_⟩
    · unfold padN at hk; omega
    · have : 1 ≤ m := by unfold padN at hk; omega
      omega
    · have := done (by unfold padN at hk; omega)
      simpa using this
    · have := done (by unfold padN at hk; omega)
      simpa using this
  rw [br_iff]
  refine ⟨fun h => ?_, fun h => ?_⟩
  · simp only [br_iff, need_iff, andB_t, andB_f, orB_t, orB_f, notB_t, notB_f, leI_t, leI_f, ltI_t, ltI_f, eqI_t, eqI_f, leN_t, leN_f, eqN_t, eqN_f, eqS_t, eqS_f, eqB_t, eqB_f, catOk_t, leC_t] at h
    exact ⟨by simp [padF, h], rfl⟩
  · have ha : 0 ≤ a := by simpa only [br_iff, need_iff, andB_t, andB_f, orB_t, orB_f, notB_t, notB_f, leI_t, leI_f, ltI_t, ltI_f, eqI_t, eqI_f, leN_t, leN_f, eqN_t, eqN_f, eqS_t, eqS_f, eqB_t, eqB_f, catOk_t, leC_t] using h
    simp only [br_iff]
    refine ⟨fun h => key ha (.inl (by simpa only [br_iff, need_iff, andB_t, andB_f, orB_t, orB_f, notB_t, notB_f, leI_t, leI_f, ltI_t, ltI_f, eqI_t, eqI_f, leN_t, leN_f, eqN_t, eqN_f, eqS_t, eqS_f, eqB_t, eqB_f, catOk_t, leC_t] using h)), fun h => ⟨fun h' => key ha (.inr (.inl (by simpa only [br_iff, need_iff, andB_t, andB_f, orB_t, orB_f, notB_t, notB_f, leI_t, leI_f, ltI_t, ltI_f, eqI_t, eqI_f, leN_t, leN_f, eqN_t, eqN_f, eqS_t, eqS_f, eqB_t, eqB_f, catOk_t, leC_t] using h'))), fun h' => ⟨fun h'' => ?_, fun h'' => key ha (.inr (.inr (by simpa only [br_iff, need_iff, andB_t, andB_f, orB_t, orB_f, notB_t, notB_f, leI_t, leI_f, ltI_t, ltI_f, eqI_t, eqI_f, leN_t, leN_f, eqN_t, eqN_f, eqS_t, eqS_f, eqB_t, eqB_f, catOk_t, leC_t] using h'')))⟩⟩⟩
    simp only [br_iff, need_iff, andB_t, andB_f, orB_t, orB_f, notB_t, notB_f, leI_t, leI_f, ltI_t, ltI_f, eqI_t, eqI_f, leN_t, leN_f, eqN_t, eqN_f, eqS_t, eqS_f, eqB_t, eqB_f, catOk_t, leC_t] at h h' h''
    have : textF a b = [] := textF_nil.2 (by simp [h, h', h''])
    exact ⟨by simp [padF, this], trivial⟩
end Go.Proofs.YtfeoeiphlgakcaaDoor
namespace Go.Proofs.YtfeoeiphlgakcaaDoor
open Go.RowKit
set_option maxRecDepth 100000
set_option linter.unusedVariables false
set_option linter.unusedSimpArgs false
structure paC where
  s : List UInt8
  b : Int
  most : Int
  cnt : Int
structure paX where
  n : Int
  i : Int
def paSt (c : paC) (x : paX) : St := ⟨[(0, .str c.s), (1, .int .i64 c.b), (2, .int .i64 c.most), (8, .int .i64 x.n), (31, .int .i64 c.cnt), (32, .int .i64 x.i)], []⟩
def paUn (s : St) : Option (paC × paX) :=
  match s with
  | ⟨[(q0, .str s), (q1, .int .i64 b), (q2, .int .i64 most), (q3, .int .i64 n), (q4, .int .i64 cnt), (q5, .int .i64 i)], []⟩ => bif Nat.beq q0 0 && Nat.beq q1 1 && Nat.beq q2 2 && Nat.beq q3 8 && Nat.beq q4 31 && Nat.beq q5 32 then some (⟨s, b, most, cnt⟩, ⟨n, i⟩) else none
  | _ => none
def paL (inv : paC → paX → paX → Nat → Prop) : LoopS where
  C := paC
  X := paX
  st := paSt
  un := paUn
  ok := by
    intro s c x h
    unfold paUn at h
    split at h
    · simp only [Bool.cond_eq_ite] at h
      split at h
      · rename_i hg
        simp only [Bool.and_eq_true, Nat.beq_eq] at hg
        obtain ⟨⟨⟨⟨⟨rfl, rfl⟩, rfl⟩, rfl⟩, rfl⟩, rfl⟩ := hg
        cases h
        rfl
      · cases h
    · cases h
  inv := inv

structure rpC where
  s : List UInt8
  b : Int
  most : Int
structure rpX where
  n : Int
  i : Int
def rpSt (c : rpC) (x : rpX) : St := ⟨[(0, .str c.s), (1, .int .i64 c.b), (2, .int .i64 c.most), (8, .int .i64 x.n), (9, .int .i64 x.i)], []⟩
def rpUn (s : St) : Option (rpC × rpX) :=
  match s with
  | ⟨[(q0, .str s), (q1, .int .i64 b), (q2, .int .i64 most), (q3, .int .i64 n), (q4, .int .i64 i)], []⟩ => bif Nat.beq q0 0 && Nat.beq q1 1 && Nat.beq q2 2 && Nat.beq q3 8 && Nat.beq q4 9 then some (⟨s, b, most⟩, ⟨n, i⟩) else none
  | _ => none
def rpL (inv : rpC → rpX → rpX → Nat → Prop) : LoopS where
  C := rpC
  X := rpX
  st := rpSt
  un := rpUn
  ok := by
    intro s c x h
    unfold rpUn at h
    split at h
    · simp only [Bool.cond_eq_ite] at h
      split at h
      · rename_i hg
        simp only [Bool.and_eq_true, Nat.beq_eq] at hg
        obtain ⟨⟨⟨⟨rfl, rfl⟩, rfl⟩, rfl⟩, rfl⟩ := hg
        cases h
        rfl
      · cases h
    · cases h
  inv := inv

theorem dgt_vc (c : Int) (K : V → List Bk → Prop) : vcF Tryd.prog cfgN (ctOf []) (lpOf []) 26 [.int .u8 c] [] K = (
  br (leI 48 c) (
    br (leI c 57) (
      K (V.int IntKind.i64 (wrapI IntKind.i64 (subI IntKind.u8 c 48))) []) (
      br (leI 97 c) (
        br (leI c 102) (
          K (V.int IntKind.i64 (addI IntKind.i64 (wrapI IntKind.i64 (subI IntKind.u8 c 97)) 10)) []) (
          K (V.int IntKind.i64 16) [])) (
        K (V.int IntKind.i64 16) []))) (
    br (leI 97 c) (
      br (leI c 102) (
        K (V.int IntKind.i64 (addI IntKind.i64 (wrapI IntKind.i64 (subI IntKind.u8 c 97)) 10)) []) (
        K (V.int IntKind.i64 16) [])) (
      K (V.int IntKind.i64 16) []))) := by kernel_rfl

theorem rdgt_vc (c : Int) (K : V → List Bk → Prop) : vcF Tryd.prog cfgN (ctOf []) (lpOf []) 27 [.int .u8 c] [] K = (
  br (leI 48 c) (
    br (leI c 57) (
      K (V.int IntKind.i64 (subI IntKind.i64 (wrapI IntKind.i64 c) 48)) []) (
      br (leI 97 c) (
        br (leI c 102) (
          K (V.int IntKind.i64 (addI IntKind.i64 (subI IntKind.i64 (wrapI IntKind.i64 c) 97) 10)) []) (
          K (V.int IntKind.i64 (-1)) [])) (
        K (V.int IntKind.i64 (-1)) []))) (
    br (leI 97 c) (
      br (leI c 102) (
        K (V.int IntKind.i64 (addI IntKind.i64 (subI IntKind.i64 (wrapI IntKind.i64 c) 97) 10)) []) (
        K (V.int IntKind.i64 (-1)) [])) (
      K (V.int IntKind.i64 (-1)) []))) := by kernel_rfl

theorem dgt_run {n : Nat} (hn : 1 ≤ n) {c : Int} (h0 : 0 ≤ c) (h1 : c < 256) : ∃ r out, evalF Tryd.prog cfgN n 26 [.int .u8 c] [] = some (r, out) ∧ r = .int .i64 (if 48 ≤ c ∧ c ≤ 57 then c - 48 else if 97 ≤ c ∧ c ≤ 102 then c - 87 else 16) ∧ out = [] := by
  refine run_of (lp := lpOf []) hn (fun k _ => noCt_ok _) ?_
  rw [dgt_vc]
  have e1 : 48 ≤ c → c ≤ 57 → wrapI .i64 (subI .u8 c 48) = c - 48 := fun a b => by unfold wrapI subI; rw [wrapU8 (by omega) (by omega), wrap64 (by omega) (by omega)]
  have e2 : 97 ≤ c → c ≤ 102 → addI .i64 (wrapI .i64 (subI .u8 c 97)) 10 = c - 87 := fun a b => by
    unfold wrapI subI; rw [wrapU8 (by omega) (by omega), wrap64 (by omega) (by omega), addI_i64 (by omega) (by omega)]; omega
  simp only [br_iff, need_iff, andB_t, andB_f, orB_t, orB_f, notB_t, notB_f, leI_t, leI_f, ltI_t, ltI_f, eqI_t, eqI_f, leN_t, leN_f, eqN_t, eqN_f, eqS_t, eqS_f, eqB_t, eqB_f, catOk_t, leC_t]
  refine ⟨fun h => ⟨fun h' => ⟨by rw [e1 h h', if_pos ⟨h, h'⟩], trivial⟩, fun h' => ⟨fun g => ⟨fun g' => ⟨by rw [e2 g g', if_neg (by omega), if_pos ⟨g, g'⟩], trivial⟩, fun g' => ⟨by rw [if_neg (by omega), if_neg (by omega)], trivial⟩⟩, fun g => ⟨by rw [if_neg (by omega), if_neg (by omega)], trivial⟩⟩⟩,
    fun h => ⟨fun g => ⟨fun g' => ⟨by rw [e2 g g', if_neg (by omega), if_pos ⟨g, g'⟩], trivial⟩, fun g' => ⟨by rw [if_neg (by omega), if_neg (by omega)], trivial⟩⟩, fun g => ⟨by rw [if_neg (by omega), if_neg (by omega)], trivial⟩⟩⟩
theorem rdgt_run {n : Nat} (hn : 1 ≤ n) {c : Int} (h0 : 0 ≤ c) (h1 : c < 256) : ∃ r out, evalF Tryd.prog cfgN n 27 [.int .u8 c] [] = some (r, out) ∧ r = .int .i64 (if 48 ≤ c ∧ c ≤ 57 then c - 48 else if 97 ≤ c ∧ c ≤ 102 then c - 87 else -1) ∧ out = [] := by
  refine run_of (lp := lpOf []) hn (fun k _ => noCt_ok _) ?_
  rw [rdgt_vc]
  have e1 : subI .i64 (wrapI .i64 c) 48 = c - 48 := by unfold wrapI; rw [wrap64 (by omega) (by omega), subI_i64 (by omega) (by omega)]
  have e2 : addI .i64 (subI .i64 (wrapI .i64 c) 97) 10 = c - 87 := by
    unfold wrapI; rw [wrap64 (by omega) (by omega), subI_i64 (by omega) (by omega), addI_i64 (by omega) (by omega)]; omega
  simp only [br_iff, need_iff, andB_t, andB_f, orB_t, orB_f, notB_t, notB_f, leI_t, leI_f, ltI_t, ltI_f, eqI_t, eqI_f, leN_t, leN_f, eqN_t, eqN_f, eqS_t, eqS_f, eqB_t, eqB_f, catOk_t, leC_t, e1, e2]
  refine ⟨fun h => ⟨fun h' => ⟨by rw [if_pos ⟨h, h'⟩], trivial⟩, fun h' => ⟨fun g => ⟨fun g' => ⟨by rw [if_neg (by omega), if_pos ⟨g, g'⟩], trivial⟩, fun g' => ⟨by rw [if_neg (by omega), if_neg (by omega)], trivial⟩⟩, fun g => ⟨by rw [if_neg (by omega), if_neg (by omega)], trivial⟩⟩⟩,
    fun h => ⟨fun g => ⟨fun g' => ⟨by rw [if_neg (by omega), if_pos ⟨g, g'⟩], trivial⟩, fun g' => ⟨by rw [if_neg (by omega), if_neg (by omega)], trivial⟩⟩, fun g => ⟨by rw [if_neg (by omega), if_neg (by omega)], trivial⟩⟩⟩
def dvI (c : Int) : Int := if 48 ≤ c ∧ c ≤ 57 then c - 48 else if 97 ≤ c ∧ c ≤ 102 then c - 87 else 16

def dvR (c : Int) : Int := if 48 ≤ c ∧ c ≤ 57 then c - 48 else if 97 ≤ c ∧ c ≤ 102 then c - 87 else -1

def par_vc_2 (s : List UInt8) (b most : Int) (I : paC → paX → paX → Nat → Prop) (K : V → List Bk → Prop) : Prop :=
  (
            (∃ m5 : Nat, (m5 < 18446744073709551616) ∧ (
            I (paC.mk s b most (lenS s)) (paX.mk 0 0) (paX.mk 0 0) m5)) ∧ (
            ∀ x5 : (paL I).X, ∀ m6 : Nat, (I (paC.mk s b most (lenS s)) (paX.mk 0 0) x5 m6) → (
            br (ltI x5.2 (lenS s)) (
              need (andB (leI 0 x5.2) (ltI x5.2 (lenS s))) (
              need (andB true (ltI (atS s x5.2) 256)) (
              br (leI b (dvI (atS s x5.2))) (
                K (V.tup [V.int IntKind.i64 0, V.int IntKind.i64 5]) []) (
                need (notB (eqI b 0)) (
                br (ltI (quoI IntKind.i64 (subI IntKind.i64 most (dvI (atS s x5.2))) b) x5.1) (
                  K (V.tup [V.int IntKind.i64 0, V.int IntKind.i64 5]) []) (
                  br (ltI most (dvI (atS s x5.2))) (
                    K (V.tup [V.int IntKind.i64 0, V.int IntKind.i64 5]) []) (
                    ((paC.mk s b most (lenS s) : (paL I).C) = paC.mk s b most (lenS s)) ∧ (
                    ∃ m'7 : Nat, (m'7 < m6) ∧ (
                    I (paC.mk s b most (lenS s)) (paX.mk 0 0) (paX.mk (addI IntKind.i64 (mulI IntKind.i64 x5.1 b) (dvI (atS s x5.2))) (addI IntKind.i64 x5.2 1)) m'7))))))))) (
              K (V.tup [V.int IntKind.i64 x5.1, V.int IntKind.i64 0]) []))))
def par_vc_1 (s : List UInt8) (b most : Int) (I : paC → paX → paX → Nat → Prop) (K : V → List Bk → Prop) : Prop :=
  (
    br (ltI most 0) (
      K (V.tup [V.int IntKind.i64 0, V.int IntKind.i64 1]) []) (
      br (eqS s []) (
        K (V.tup [V.int IntKind.i64 0, V.int IntKind.i64 5]) []) (
        br (ltI 1 (lenS s)) (
          need (andB true (ltI 0 (lenS s))) (
          br (eqI (atS s 0) 48) (
            K (V.tup [V.int IntKind.i64 0, V.int IntKind.i64 5]) []) (par_vc_2 s b most I K))) (par_vc_2 s b most I K))))
theorem par_vc (s : List UInt8) (b most : Int) (I : paC → paX → paX → Nat → Prop) (K : V → List Bk → Prop) : vcF Tryd.prog cfgN (ctOf [(21, inlC Tryd.prog cfgN (ctOf []) 21), (26, fun vs bs K => match vs, bs with | [.int .u8 c], [] => need (andB (leI 0 c) (ltI c 256)) (K (.int .i64 (dvI c)) []) | _, _ => False)]) (lpOf [(7, paL I)]) 14 [.str s, .int .i64 b, .int .i64 most] [] K = (
  br (eqI b 8) (par_vc_1 s b most I K) (
    br (eqI b 10) (par_vc_1 s b most I K) (
      br (notB (eqI b 16)) (
        K (V.tup [V.int IntKind.i64 0, V.int IntKind.i64 1]) []) (par_vc_1 s b most I K)))) := by kernel_rfl

def rpr_vc_2 (s : List UInt8) (b most : Int) (I : rpC → rpX → rpX → Nat → Prop) (K : V → List Bk → Prop) : Prop :=
  (
            (∃ m5 : Nat, (m5 < 18446744073709551616) ∧ (
            I (rpC.mk s b most) (rpX.mk 0 0) (rpX.mk 0 0) m5)) ∧ (
            ∀ x5 : (rpL I).X, ∀ m6 : Nat, (I (rpC.mk s b most) (rpX.mk 0 0) x5 m6) → (
            br (ltI x5.2 (lenS s)) (
              need (andB (leI 0 x5.2) (ltI x5.2 (lenS s))) (
              need (andB true (ltI (atS s x5.2) 256)) (
              br (ltI (dvR (atS s x5.2)) 0) (
                K (V.tup [V.int IntKind.i64 0, V.int IntKind.i64 5]) []) (
                br (leI b (dvR (atS s x5.2))) (
                  K (V.tup [V.int IntKind.i64 0, V.int IntKind.i64 5]) []) (
                  br (ltI most (dvR (atS s x5.2))) (
                    K (V.tup [V.int IntKind.i64 0, V.int IntKind.i64 5]) []) (
                    need (notB (eqI b 0)) (
                    br (ltI (quoI IntKind.i64 (subI IntKind.i64 most (dvR (atS s x5.2))) b) x5.1) (
                      K (V.tup [V.int IntKind.i64 0, V.int IntKind.i64 5]) []) (
                      ((rpC.mk s b most : (rpL I).C) = rpC.mk s b most) ∧ (
                      ∃ m'7 : Nat, (m'7 < m6) ∧ (
                      I (rpC.mk s b most) (rpX.mk 0 0) (rpX.mk (addI IntKind.i64 (mulI IntKind.i64 x5.1 b) (dvR (atS s x5.2))) (addI IntKind.i64 x5.2 1)) m'7)))))))))) (
              K (V.tup [V.int IntKind.i64 x5.1, V.int IntKind.i64 0]) []))))
def rpr_vc_1 (s : List UInt8) (b most : Int) (I : rpC → rpX → rpX → Nat → Prop) (K : V → List Bk → Prop) : Prop :=
  (
    br (ltI most 0) (
      K (V.tup [V.int IntKind.i64 0, V.int IntKind.i64 1]) []) (
      br (eqS s []) (
        K (V.tup [V.int IntKind.i64 0, V.int IntKind.i64 5]) []) (
        br (ltI 1 (lenS s)) (
          need (andB true (ltI 0 (lenS s))) (
          br (eqI (atS s 0) 48) (
            K (V.tup [V.int IntKind.i64 0, V.int IntKind.i64 5]) []) (rpr_vc_2 s b most I K))) (rpr_vc_2 s b most I K))))
theorem rpr_vc (s : List UInt8) (b most : Int) (I : rpC → rpX → rpX → Nat → Prop) (K : V → List Bk → Prop) : vcF Tryd.prog cfgN (ctOf [(23, inlC Tryd.prog cfgN (ctOf []) 23), (27, fun vs bs K => match vs, bs with | [.int .u8 c], [] => need (andB (leI 0 c) (ltI c 256)) (K (.int .i64 (dvR c)) []) | _, _ => False)]) (lpOf [(7, rpL I)]) 15 [.str s, .int .i64 b, .int .i64 most] [] K = (
  br (eqI b 8) (rpr_vc_1 s b most I K) (
    br (eqI b 10) (rpr_vc_1 s b most I K) (
      br (notB (eqI b 16)) (
        K (V.tup [V.int IntKind.i64 0, V.int IntKind.i64 1]) []) (rpr_vc_1 s b most I K)))) := by kernel_rfl

theorem quoI_i64 {a b : Int} (h1 : -9223372036854775807 ≤ a) (h2 : a ≤ 9223372036854775807) (hb : 1 ≤ b) : quoI .i64 a b = a.tdiv b := by
  unfold quoI
  have h := Int.natAbs_tdiv_le_natAbs a b
  exact wrap64 (by omega) (by omega)
/-- A digit's value; 16 for a byte that is none. -/
def dv (c : UInt8) : Int := dvI (c.toNat : Int)
theorem dv_nonneg (c : UInt8) : 0 ≤ dv c ∧ dv c ≤ 16 := by
  unfold dv dvI
  have := c.toNat_lt
  split
  · omega
  · split <;> omega
theorem dvR_dv (c : UInt8) : dvR (c.toNat : Int) = if dv c = 16 then -1 else dv c := by
  unfold dv dvI dvR
  have := c.toNat_lt
  split
  · rw [if_neg (by omega)]
  · split
    · rw [if_neg (by omega)]
    · rw [if_pos rfl]
def parseGo (b most : Int) : List UInt8 → Int → Option Int
  | [], n => some n
  | c :: t, n => if b ≤ dv c ∨ most < dv c ∨ (most - dv c).tdiv b < n then none else parseGo b most t (n * b + dv c)
def parseF (s : List UInt8) (b most : Int) : V :=
  if ¬ (b = 8 ∨ b = 10 ∨ b = 16) ∨ most < 0 then .tup [.int .i64 0, .int .i64 1]
  else if s = [] ∨ (1 < s.length ∧ s.head? = some 48) then .tup [.int .i64 0, .int .i64 5]
  else match parseGo b most s 0 with
    | some n => .tup [.int .i64 n, .int .i64 0]
    | none => .tup [.int .i64 0, .int .i64 5]
theorem parse_step {b most n : Int} {c : UInt8} {t : List UInt8} (hb : 2 ≤ b) (hn : 0 ≤ n) (h1 : ¬ b ≤ dv c) (h2 : ¬ most < dv c) (h3 : ¬ (most - dv c).tdiv b < n) : parseGo b most (c :: t) n = parseGo b most t (n * b + dv c) ∧ 0 ≤ n * b + dv c ∧ n * b + dv c ≤ most ∧ n * b ≤ most ∧ 0 ≤ n * b := by
  have hd := dv_nonneg c
  refine ⟨by simp only [parseGo]; rw [if_neg (by rintro (h | h | h); exact h1 h; exact h2 h; exact h3 h)], ?_⟩
  have hnb : 0 ≤ n * b := Int.mul_nonneg hn (by omega)
  rw [Int.tdiv_eq_ediv_of_nonneg (by omega)] at h3
  have : n * b ≤ most - dv c := (Int.le_ediv_iff_mul_le (by omega)).1 (by omega)
  omega
theorem parse_fail {b most n : Int} {c : UInt8} {t : List UInt8} (h : b ≤ dv c ∨ most < dv c ∨ (most - dv c).tdiv b < n) : parseGo b most (c :: t) n = none := by
  simp only [parseGo]; rw [if_pos h]
def paI (s : List UInt8) (b most : Int) (n i : Int) (m : Nat) : Prop := ∃ k : Nat, i = (k : Int) ∧ k + m = s.length ∧ parseGo b most (s.drop k) n = parseGo b most s 0 ∧ 0 ≤ n ∧ n ≤ most
theorem pa_loop {s : List UInt8} {b most : Int} (hs : s.length ≤ 4611686018427387904) (hb : b = 8 ∨ b = 10 ∨ b = 16) (hm0 : 0 ≤ most) (hm : most ≤ 9223372036854775807) (hne : ¬ (s = [] ∨ (1 < s.length ∧ s.head? = some 48))) :
    par_vc_2 s b most (fun _ _ x m => paI s b most x.n x.i m) (fun r out => r = parseF s b most ∧ out = []) := by
  unfold par_vc_2
  refine ⟨⟨s.length, by omega, 0, rfl, by omega, rfl, by simp only; omega, hm0⟩, ?_⟩
  rintro ⟨n, i⟩ m ⟨k, rfl, hk, hp, hn0, hn1⟩
  have hF : parseF s b most = match parseGo b most s 0 with
      | some n => .tup [.int .i64 n, .int .i64 0]
      | none => .tup [.int .i64 0, .int .i64 5] := by
    unfold parseF
    rw [if_neg (by rintro (h | h); exact h hb; omega), if_neg hne]
  simp only at hp hn0 hn1 ⊢
  rw [br_iff]
  refine ⟨fun hlt => ?_, fun hge => ?_⟩
  · have hlt : k < s.length := by simp only [br_iff, need_iff, andB_t, andB_f, orB_t, orB_f, notB_t, notB_f, leI_t, leI_f, ltI_t, ltI_f, eqI_t, eqI_f, leN_t, leN_f, eqN_t, eqN_f, eqS_t, eqS_f, eqB_t, eqB_f, catOk_t, leC_t, lenS] at hlt; omega
    rw [List.drop_eq_getElem_cons hlt] at hp
    rw [atS_at hlt]
    have hc := (s[k]).toNat_lt
    have hd := dv_nonneg s[k]
    generalize s[k] = c at hp hc hd
    have hD : dvI (c.toNat : Int) = dv c := rfl
    have fail : (b ≤ dv c ∨ most < dv c ∨ (most - dv c).tdiv b < n) → V.tup [V.int IntKind.i64 0, V.int IntKind.i64 5] = parseF s b most ∧ ([] : List Bk) = [] := by
      intro h
      rw [hF, ← hp, parse_fail h]
      exact ⟨rfl, rfl⟩
    have e1 : subI .i64 most (dv c) = most - dv c := subI_i64 (by omega) (by omega)
    have e2 : quoI .i64 (most - dv c) b = (most - dv c).tdiv b := quoI_i64 (by omega) (by omega) (by omega)
    rw [hD, e1, e2]
    simp only [br_iff, need_iff, andB_t, andB_f, orB_t, orB_f, notB_t, notB_f, leI_t, leI_f, ltI_t, ltI_f, eqI_t, eqI_f, leN_t, leN_f, eqN_t, eqN_f, eqS_t, eqS_f, eqB_t, eqB_f, catOk_t, leC_t]
    refine ⟨⟨by omega, by simpa [lenS] using hlt⟩, ⟨trivial, by omega⟩, fun h => by simpa using fail (.inl h), fun h => ⟨by omega, fun h' => by simpa using fail (.inr (.inr h')), fun h' => ⟨fun h'' => by simpa using fail (.inr (.inl h'')), fun h'' => ?_⟩⟩⟩
    obtain ⟨g1, g2, g3, g4, g5⟩ := parse_step (b := b) (most := most) (c := c) (t := s.drop (k + 1)) (n := n) (by omega) hn0 (by omega) (by omega) (by omega)
    have e3 : mulI .i64 n b = n * b := mulI_i64 (by omega) (by omega)
    have e4 : addI .i64 (n * b) (dv c) = n * b + dv c := addI_i64 (by omega) (by omega)
    have e5 : addI .i64 (k : Int) 1 = ((k + 1 : Nat) : Int) := by rw [addI_i64 (by omega) (by omega)]; omega
    rw [e3, e4, e5]
    refine ⟨trivial, m - 1, by omega, k + 1, rfl, by omega, by rw [← hp, ← g1], g2, g3⟩
  · have hk2 : k = s.length := by simp only [br_iff, need_iff, andB_t, andB_f, orB_t, orB_f, notB_t, notB_f, leI_t, leI_f, ltI_t, ltI_f, eqI_t, eqI_f, leN_t, leN_f, eqN_t, eqN_f, eqS_t, eqS_f, eqB_t, eqB_f, catOk_t, leC_t, lenS] at hge; omega
    subst hk2
    rw [hF, ← hp, List.drop_length]
    exact ⟨rfl, by trivial⟩
theorem pa_run {n : Nat} (hn : 2 ≤ n) {s : List UInt8} {b most : Int} (hs : s.length ≤ 4611686018427387904) (hm1 : -9223372036854775808 ≤ most) (hm : most ≤ 9223372036854775807) : ∃ r out, evalF Tryd.prog cfgN n 14 [.str s, .int .i64 b, .int .i64 most] [] = some (r, out) ∧ r = parseF s b most ∧ out = [] := by
  refine run_of (lp := lpOf [(7, paL fun _ _ x m => paI s b most x.n x.i m)]) (ct := ctOf [(21, inlC Tryd.prog cfgN (ctOf []) 21), (26, fun vs bs K => match vs, bs with | [.int .u8 c], [] => need (andB (leI 0 c) (ltI c 256)) (K (.int .i64 (dvI c)) []) | _, _ => False)]) (by omega)
    (fun k hk => ctOf_ok (ctOf_cons (inl_ok (by omega) fun _ _ => noCt_ok _) (ctOf_cons ?_ (ctOf_nil _)))) ?_
  · intro vs bs K h
    try dsimp only at h
    split at h
    · simp only [br_iff, need_iff, andB_t, andB_f, orB_t, orB_f, notB_t, notB_f, leI_t, leI_f, ltI_t, ltI_f, eqI_t, eqI_f, leN_t, leN_f, eqN_t, eqN_f, eqS_t, eqS_f, eqB_t, eqB_f, catOk_t, leC_t] at h
      obtain ⟨r, out, e, rfl, rfl⟩ := dgt_run (n := k) (by omega) h.1.1 h.1.2
      exact ⟨_, _, e, h.2⟩
    · exact h.elim
  · rw [par_vc]
    have key : (b = 8 ∨ b = 10 ∨ b = 16) → par_vc_1 s b most (fun _ _ x m => paI s b most x.n x.i m) (fun r out => r = parseF s b most ∧ out = []) := by
      intro hb
      unfold par_vc_1
      simp only [br_iff]
      refine ⟨fun h => ?_, fun h => ⟨fun h1 => ?_, fun h1 => ⟨fun h2 => ?_, fun h2 => ?_⟩⟩⟩
      · simp only [br_iff, need_iff, andB_t, andB_f, orB_t, orB_f, notB_t, notB_f, leI_t, leI_f, ltI_t, ltI_f, eqI_t, eqI_f, leN_t, leN_f, eqN_t, eqN_f, eqS_t, eqS_f, eqB_t, eqB_f, catOk_t, leC_t] at h
        exact ⟨by simp [parseF, h], by trivial⟩
      · simp only [br_iff, need_iff, andB_t, andB_f, orB_t, orB_f, notB_t, notB_f, leI_t, leI_f, ltI_t, ltI_f, eqI_t, eqI_f, leN_t, leN_f, eqN_t, eqN_f, eqS_t, eqS_f, eqB_t, eqB_f, catOk_t, leC_t] at h h1
        exact ⟨by unfold parseF; rw [if_neg (by rintro (h' | h'); exact h' hb; omega), if_pos (.inl h1)], by trivial⟩
      · simp only [br_iff, need_iff, andB_t, andB_f, orB_t, orB_f, notB_t, notB_f, leI_t, leI_f, ltI_t, ltI_f, eqI_t, eqI_f, leN_t, leN_f, eqN_t, eqN_f, eqS_t, eqS_f, eqB_t, eqB_f, catOk_t, leC_t] at h h1
        have h2' : 1 < s.length := by simp only [br_iff, need_iff, andB_t, andB_f, orB_t, orB_f, notB_t, notB_f, leI_t, leI_f, ltI_t, ltI_f, eqI_t, eqI_f, leN_t, leN_f, eqN_t, eqN_f, eqS_t, eqS_f, eqB_t, eqB_f, catOk_t, leC_t, lenS] at h2; omega
        rw [need_iff]
        refine ⟨by simp only [br_iff, need_iff, andB_t, andB_f, orB_t, orB_f, notB_t, notB_f, leI_t, leI_f, ltI_t, ltI_f, eqI_t, eqI_f, leN_t, leN_f, eqN_t, eqN_f, eqS_t, eqS_f, eqB_t, eqB_f, catOk_t, leC_t, lenS]; simp; omega, ?_⟩
        obtain ⟨c, t, rfl⟩ : ∃ c t, s = c :: t := by cases s with
          | nil => simp at h2'
          | cons c t => exact ⟨c, t, rfl⟩
        have h0 : atS (c :: t) 0 = (c.toNat : Int) := rfl
        simp only [h0, br_iff]
        refine ⟨fun h3 => ?_, fun h3 => ?_⟩
        · have : c = 48 := by
            simp only [br_iff, need_iff, andB_t, andB_f, orB_t, orB_f, notB_t, notB_f, leI_t, leI_f, ltI_t, ltI_f, eqI_t, eqI_f, leN_t, leN_f, eqN_t, eqN_f, eqS_t, eqS_f, eqB_t, eqB_f, catOk_t, leC_t] at h3
            apply UInt8.toNat_inj.1
            simp; omega
          exact ⟨by unfold parseF; rw [if_neg (by rintro (h' | h'); exact h' hb; omega), if_pos (.inr ⟨h2', by simp [this]⟩)], by trivial⟩
        · refine pa_loop hs hb h hm ?_
          rintro (h' | ⟨_, h'⟩)
          · cases h'
          · simp only [br_iff, need_iff, andB_t, andB_f, orB_t, orB_f, notB_t, notB_f, leI_t, leI_f, ltI_t, ltI_f, eqI_t, eqI_f, leN_t, leN_f, eqN_t, eqN_f, eqS_t, eqS_f, eqB_t, eqB_f, catOk_t, leC_t] at h3
            simp at h'
            subst h'
            exact h3 rfl
      · simp only [br_iff, need_iff, andB_t, andB_f, orB_t, orB_f, notB_t, notB_f, leI_t, leI_f, ltI_t, ltI_f, eqI_t, eqI_f, leN_t, leN_f, eqN_t, eqN_f, eqS_t, eqS_f, eqB_t, eqB_f, catOk_t, leC_t] at h h1
        refine pa_loop hs hb h hm ?_
        rintro (h' | ⟨h', _⟩)
        · exact h1 h'
        · simp only [br_iff, need_iff, andB_t, andB_f, orB_t, orB_f, notB_t, notB_f, leI_t, leI_f, ltI_t, ltI_f, eqI_t, eqI_f, leN_t, leN_f, eqN_t, eqN_f, eqS_t, eqS_f, eqB_t, eqB_f, catOk_t, leC_t, lenS] at h2; omega
    simp only [br_iff]
    refine ⟨fun h => key (.inl (by simpa only [br_iff, need_iff, andB_t, andB_f, orB_t, orB_f, notB_t, notB_f, leI_t, leI_f, ltI_t, ltI_f, eqI_t, eqI_f, leN_t, leN_f, eqN_t, eqN_f, eqS_t, eqS_f, eqB_t, eqB_f, catOk_t, leC_t] using h)), fun h => ⟨fun h' => key (.inr (.inl (by simpa only [br_iff, need_iff, andB_t, andB_f, orB_t, orB_f, notB_t, notB_f, leI_t, leI_f, ltI_t, ltI_f, eqI_t, eqI_f, leN_t, leN_f, eqN_t, eqN_f, eqS_t, eqS_f, eqB_t, eqB_f, catOk_t, leC_t] using h'))), fun h' => ⟨fun h'' => ?_, fun h'' => key (.inr (.inr (by simpa only [br_iff, need_iff, andB_t, andB_f, orB_t, orB_f, notB_t, notB_f, leI_t, leI_f, ltI_t, ltI_f, eqI_t, eqI_f, leN_t, leN_f, eqN_t, eqN_f, eqS_t, eqS_f, eqB_t, eqB_f, catOk_t, leC_t] using h'')))⟩⟩⟩
    simp only [br_iff, need_iff, andB_t, andB_f, orB_t, orB_f, notB_t, notB_f, leI_t, leI_f, ltI_t, ltI_f, eqI_t, eqI_f, leN_t, leN_f, eqN_t, eqN_f, eqS_t, eqS_f, eqB_t, eqB_f, catOk_t, leC_t] at h h' h''
    exact ⟨by simp [parseF, h, h', h''], trivial⟩
theorem rp_loop {s : List UInt8} {b most : Int} (hs : s.length ≤ 4611686018427387904) (hb : b = 8 ∨ b = 10 ∨ b = 16) (hm0 : 0 ≤ most) (hm : most ≤ 9223372036854775807) (hne : ¬ (s = [] ∨ (1 < s.length ∧ s.head? = some 48))) :
    rpr_vc_2 s b most (fun _ _ x m => paI s b most x.n x.i m) (fun r out => r = parseF s b most ∧ out = []) := by
  unfold rpr_vc_2
  refine ⟨⟨s.length, by omega, 0, rfl, by omega, rfl, by simp only; omega, hm0⟩, ?_⟩
  rintro ⟨n, i⟩ m ⟨k, rfl, hk, hp, hn0, hn1⟩
  have hF : parseF s b most = match parseGo b most s 0 with
      | some n => .tup [.int .i64 n, .int .i64 0]
      | none => .tup [.int .i64 0, .int .i64 5] := by
    unfold parseF
    rw [if_neg (by rintro (h | h); exact h hb; omega), if_neg hne]
  simp only at hp hn0 hn1 ⊢
  rw [br_iff]
  refine ⟨fun hlt => ?_, fun hge => ?_⟩
  · have hlt : k < s.length := by simp only [br_iff, need_iff, andB_t, andB_f, orB_t, orB_f, notB_t, notB_f, leI_t, leI_f, ltI_t, ltI_f, eqI_t, eqI_f, leN_t, leN_f, eqN_t, eqN_f, eqS_t, eqS_f, eqB_t, eqB_f, catOk_t, leC_t, lenS] at hlt; omega
    rw [List.drop_eq_getElem_cons hlt] at hp
    rw [atS_at hlt]
    have hc := (s[k]).toNat_lt
    have hd := dv_nonneg s[k]
    generalize s[k] = c at hp hc hd
    have hD : dvI (c.toNat : Int) = dv c := rfl
    have fail : (b ≤ dv c ∨ most < dv c ∨ (most - dv c).tdiv b < n) → V.tup [V.int IntKind.i64 0, V.int IntKind.i64 5] = parseF s b most ∧ ([] : List Bk) = [] := by
      intro h
      rw [hF, ← hp, parse_fail h]
      exact ⟨rfl, rfl⟩
    have e1 : subI .i64 most (dv c) = most - dv c := subI_i64 (by omega) (by omega)
    have e2 : quoI .i64 (most - dv c) b = (most - dv c).tdiv b := quoI_i64 (by omega) (by omega) (by omega)
    rw [dvR_dv]
    by_cases h16 : dv c = 16
    · rw [if_pos h16]
      simp only [br_iff, need_iff, andB_t, andB_f, orB_t, orB_f, notB_t, notB_f, leI_t, leI_f, ltI_t, ltI_f, eqI_t, eqI_f, leN_t, leN_f, eqN_t, eqN_f, eqS_t, eqS_f, eqB_t, eqB_f, catOk_t, leC_t]
      refine ⟨⟨by omega, by simpa [lenS] using hlt⟩, ⟨trivial, by omega⟩, fun _ => by simpa using fail (.inl (by omega)), fun h => by omega⟩
    rw [if_neg h16, e1, e2]
    simp only [br_iff, need_iff, andB_t, andB_f, orB_t, orB_f, notB_t, notB_f, leI_t, leI_f, ltI_t, ltI_f, eqI_t, eqI_f, leN_t, leN_f, eqN_t, eqN_f, eqS_t, eqS_f, eqB_t, eqB_f, catOk_t, leC_t]
    refine ⟨⟨by omega, by simpa [lenS] using hlt⟩, ⟨trivial, by omega⟩, fun h => by omega, fun _ => ⟨fun h => by simpa using fail (.inl h), fun h => ⟨fun h' => by simpa using fail (.inr (.inl h')), fun h' => ⟨by omega, fun h'' => by simpa using fail (.inr (.inr h'')), fun h'' => ?_⟩⟩⟩⟩
    obtain ⟨g1, g2, g3, g4, g5⟩ := parse_step (b := b) (most := most) (c := c) (t := s.drop (k + 1)) (n := n) (by omega) hn0 (by omega) (by omega) (by omega)
    have e3 : mulI .i64 n b = n * b := mulI_i64 (by omega) (by omega)
    have e4 : addI .i64 (n * b) (dv c) = n * b + dv c := addI_i64 (by omega) (by omega)
    have e5 : addI .i64 (k : Int) 1 = ((k + 1 : Nat) : Int) := by rw [addI_i64 (by omega) (by omega)]; omega
    rw [e3, e4, e5]
    refine ⟨trivial, m - 1, by omega, k + 1, rfl, by omega, by rw [← hp, ← g1], g2, g3⟩
  · have hk2 : k = s.length := by simp only [br_iff, need_iff, andB_t, andB_f, orB_t, orB_f, notB_t, notB_f, leI_t, leI_f, ltI_t, ltI_f, eqI_t, eqI_f, leN_t, leN_f, eqN_t, eqN_f, eqS_t, eqS_f, eqB_t, eqB_f, catOk_t, leC_t, lenS] at hge; omega
    subst hk2
    rw [hF, ← hp, List.drop_length]
    exact ⟨rfl, by trivial⟩
theorem rp_run {n : Nat} (hn : 2 ≤ n) {s : List UInt8} {b most : Int} (hs : s.length ≤ 4611686018427387904) (hm1 : -9223372036854775808 ≤ most) (hm : most ≤ 9223372036854775807) : ∃ r out, evalF Tryd.prog cfgN n 15 [.str s, .int .i64 b, .int .i64 most] [] = some (r, out) ∧ r = parseF s b most ∧ out = [] := by
  refine run_of (lp := lpOf [(7, rpL fun _ _ x m => paI s b most x.n x.i m)]) (ct := ctOf [(23, inlC Tryd.prog cfgN (ctOf []) 23), (27, fun vs bs K => match vs, bs with | [.int .u8 c], [] => need (andB (leI 0 c) (ltI c 256)) (K (.int .i64 (dvR c)) []) | _, _ => False)]) (by omega)
    (fun k hk => ctOf_ok (ctOf_cons (inl_ok (by omega) fun _ _ => noCt_ok _) (ctOf_cons ?_ (ctOf_nil _)))) ?_
  · intro vs bs K h
    try dsimp only at h
    split at h
    · simp only [br_iff, need_iff, andB_t, andB_f, orB_t, orB_f, notB_t, notB_f, leI_t, leI_f, ltI_t, ltI_f, eqI_t, eqI_f, leN_t, leN_f, eqN_t, eqN_f, eqS_t, eqS_f, eqB_t, eqB_f, catOk_t, leC_t] at h
      obtain ⟨r, out, e, rfl, rfl⟩ := rdgt_run (n := k) (by omega) h.1.1 h.1.2
      exact ⟨_, _, e, h.2⟩
    · exact h.elim
  · rw [rpr_vc]
    have key : (b = 8 ∨ b = 10 ∨ b = 16) → rpr_vc_1 s b most (fun _ _ x m => paI s b most x.n x.i m) (fun r out => r = parseF s b most ∧ out = []) := by
      intro hb
      unfold rpr_vc_1
      simp only [br_iff]
      refine ⟨fun h => ?_, fun h => ⟨fun h1 => ?_, fun h1 => ⟨fun h2 => ?_, fun h2 => ?_⟩⟩⟩
      · simp only [br_iff, need_iff, andB_t, andB_f, orB_t, orB_f, notB_t, notB_f, leI_t, leI_f, ltI_t, ltI_f, eqI_t, eqI_f, leN_t, leN_f, eqN_t, eqN_f, eqS_t, eqS_f, eqB_t, eqB_f, catOk_t, leC_t] at h
        exact ⟨by simp [parseF, h], by trivial⟩
      · simp only [br_iff, need_iff, andB_t, andB_f, orB_t, orB_f, notB_t, notB_f, leI_t, leI_f, ltI_t, ltI_f, eqI_t, eqI_f, leN_t, leN_f, eqN_t, eqN_f, eqS_t, eqS_f, eqB_t, eqB_f, catOk_t, leC_t] at h h1
        exact ⟨by unfold parseF; rw [if_neg (by rintro (h' | h'); exact h' hb; omega), if_pos (.inl h1)], by trivial⟩
      · simp only [br_iff, need_iff, andB_t, andB_f, orB_t, orB_f, notB_t, notB_f, leI_t, leI_f, ltI_t, ltI_f, eqI_t, eqI_f, leN_t, leN_f, eqN_t, eqN_f, eqS_t, eqS_f, eqB_t, eqB_f, catOk_t, leC_t] at h h1
        have h2' : 1 < s.length := by simp only [br_iff, need_iff, andB_t, andB_f, orB_t, orB_f, notB_t, notB_f, leI_t, leI_f, ltI_t, ltI_f, eqI_t, eqI_f, leN_t, leN_f, eqN_t, eqN_f, eqS_t, eqS_f, eqB_t, eqB_f, catOk_t, leC_t, lenS] at h2; omega
        rw [need_iff]
        refine ⟨by simp only [br_iff, need_iff, andB_t, andB_f, orB_t, orB_f, notB_t, notB_f, leI_t, leI_f, ltI_t, ltI_f, eqI_t, eqI_f, leN_t, leN_f, eqN_t, eqN_f, eqS_t, eqS_f, eqB_t, eqB_f, catOk_t, leC_t, lenS]; simp; omega, ?_⟩
        obtain ⟨c, t, rfl⟩ : ∃ c t, s = c :: t := by cases s with
          | nil => simp at h2'
          | cons c t => exact ⟨c, t, rfl⟩
        have h0 : atS (c :: t) 0 = (c.toNat : Int) := rfl
        simp only [h0, br_iff]
        refine ⟨fun h3 => ?_, fun h3 => ?_⟩
        · have : c = 48 := by
            simp only [br_iff, need_iff, andB_t, andB_f, orB_t, orB_f, notB_t, notB_f, leI_t, leI_f, ltI_t, ltI_f, eqI_t, eqI_f, leN_t, leN_f, eqN_t, eqN_f, eqS_t, eqS_f, eqB_t, eqB_f, catOk_t, leC_t] at h3
            apply UInt8.toNat_inj.1
            simp; omega
          exact ⟨by unfold parseF; rw [if_neg (by rintro (h' | h'); exact h' hb; omega), if_pos (.inr ⟨h2', by simp [this]⟩)], by trivial⟩
        · refine rp_loop hs hb h hm ?_
          rintro (h' | ⟨_, h'⟩)
          · cases h'
          · simp only [br_iff, need_iff, andB_t, andB_f, orB_t, orB_f, notB_t, notB_f, leI_t, leI_f, ltI_t, ltI_f, eqI_t, eqI_f, leN_t, leN_f, eqN_t, eqN_f, eqS_t, eqS_f, eqB_t, eqB_f, catOk_t, leC_t] at h3
            simp at h'
            subst h'
            exact h3 rfl
      · simp only [br_iff, need_iff, andB_t, andB_f, orB_t, orB_f, notB_t, notB_f, leI_t, leI_f, ltI_t, ltI_f, eqI_t, eqI_f, leN_t, leN_f, eqN_t, eqN_f, eqS_t, eqS_f, eqB_t, eqB_f, catOk_t, leC_t] at h h1
        refine rp_loop hs hb h hm ?_
        rintro (h' | ⟨h', _⟩)
        · exact h1 h'
        · simp only [br_iff, need_iff, andB_t, andB_f, orB_t, orB_f, notB_t, notB_f, leI_t, leI_f, ltI_t, ltI_f, eqI_t, eqI_f, leN_t, leN_f, eqN_t, eqN_f, eqS_t, eqS_f, eqB_t, eqB_f, catOk_t, leC_t, lenS] at h2; omega
    simp only [br_iff]
    refine ⟨fun h => key (.inl (by simpa only [br_iff, need_iff, andB_t, andB_f, orB_t, orB_f, notB_t, notB_f, leI_t, leI_f, ltI_t, ltI_f, eqI_t, eqI_f, leN_t, leN_f, eqN_t, eqN_f, eqS_t, eqS_f, eqB_t, eqB_f, catOk_t, leC_t] using h)), fun h => ⟨fun h' => key (.inr (.inl (by simpa only [br_iff, need_iff, andB_t, andB_f, orB_t, orB_f, notB_t, notB_f, leI_t, leI_f, ltI_t, ltI_f, eqI_t, eqI_f, leN_t, leN_f, eqN_t, eqN_f, eqS_t, eqS_f, eqB_t, eqB_f, catOk_t, leC_t] using h'))), fun h' => ⟨fun h'' => ?_, fun h'' => key (.inr (.inr (by simpa only [br_iff, need_iff, andB_t, andB_f, orB_t, orB_f, notB_t, notB_f, leI_t, leI_f, ltI_t, ltI_f, eqI_t, eqI_f, leN_t, leN_f, eqN_t, eqN_f, eqS_t, eqS_f, eqB_t, eqB_f, catOk_t, leC_t] using h'')))⟩⟩⟩
    simp only [br_iff, need_iff, andB_t, andB_f, orB_t, orB_f, notB_t, notB_f, leI_t, leI_f, ltI_t, ltI_f, eqI_t, eqI_f, leN_t, leN_f, eqN_t, eqN_f, eqS_t, eqS_f, eqB_t, eqB_f, catOk_t, leC_t] at h h' h''
    exact ⟨by simp [parseF, h, h', h''], trivial⟩
end Go.Proofs.YtfeoeiphlgakcaaDoor
namespace Go.Proofs.YtfeoeiphlgakcaaDoor
open Go.RowKit
set_option maxRecDepth 100000
set_option linter.unusedVariables false
set_option linter.unusedSimpArgs false
structure fdC where
  s : List UInt8
  cnt : Int
structure fdX where
  len : Nat
  cm : Nat
  frm : Int
  i : Int
  es : List (List V)
def fdSt (c : fdC) (x : fdX) : St := ⟨[(0, .str c.s), (3, .ref 0 0 x.len x.cm), (4, .int .i64 x.frm), (7, .int .i64 c.cnt), (8, .int .i64 x.i)], [(0, ⟨true, false, true, x.es⟩)]⟩
def fdUn (s : St) : Option (fdC × fdX) :=
  match s with
  | ⟨[(q0, .str s), (q1, .ref q2 q3 len cm), (q4, .int .i64 frm), (q5, .int .i64 cnt), (q6, .int .i64 i)], [(q7, ⟨true, false, true, es⟩)]⟩ => bif Nat.beq q0 0 && Nat.beq q1 3 && Nat.beq q2 0 && Nat.beq q3 0 && Nat.beq q4 4 && Nat.beq q5 7 && Nat.beq q6 8 && Nat.beq q7 0 then some (⟨s, cnt⟩, ⟨len, cm, frm, i, es⟩) else none
  | _ => none
def fdL (inv : fdC → fdX → fdX → Nat → Prop) : LoopS where
  C := fdC
  X := fdX
  st := fdSt
  un := fdUn
  ok := by
    intro s c x h
    unfold fdUn at h
    split at h
    · simp only [Bool.cond_eq_ite] at h
      split at h
      · rename_i hg
        simp only [Bool.and_eq_true, Nat.beq_eq] at hg
        obtain ⟨⟨⟨⟨⟨⟨⟨rfl, rfl⟩, rfl⟩, rfl⟩, rfl⟩, rfl⟩, rfl⟩, rfl⟩ := hg
        cases h
        rfl
      · cases h
    · cases h
  inv := inv

structure rfC where
  s : List UInt8
structure rfX where
  len : Nat
  cm : Nat
  frm : Int
  i : Int
  es : List (List V)
def rfSt (c : rfC) (x : rfX) : St := ⟨[(0, .str c.s), (3, .ref 0 0 x.len x.cm), (4, .int .i64 x.frm), (5, .int .i64 x.i)], [(0, ⟨true, false, true, x.es⟩)]⟩
def rfUn (s : St) : Option (rfC × rfX) :=
  match s with
  | ⟨[(q0, .str s), (q1, .ref q2 q3 len cm), (q4, .int .i64 frm), (q5, .int .i64 i)], [(q6, ⟨true, false, true, es⟩)]⟩ => bif Nat.beq q0 0 && Nat.beq q1 3 && Nat.beq q2 0 && Nat.beq q3 0 && Nat.beq q4 4 && Nat.beq q5 5 && Nat.beq q6 0 then some (⟨s⟩, ⟨len, cm, frm, i, es⟩) else none
  | _ => none
def rfL (inv : rfC → rfX → rfX → Nat → Prop) : LoopS where
  C := rfC
  X := rfX
  st := rfSt
  un := rfUn
  ok := by
    intro s c x h
    unfold rfUn at h
    split at h
    · simp only [Bool.cond_eq_ite] at h
      split at h
      · rename_i hg
        simp only [Bool.and_eq_true, Nat.beq_eq] at hg
        obtain ⟨⟨⟨⟨⟨⟨rfl, rfl⟩, rfl⟩, rfl⟩, rfl⟩, rfl⟩, rfl⟩ := hg
        cases h
        rfl
      · cases h
    · cases h
  inv := inv

structure smC where
  xs : List (List V)
  ys : List (List V)
  cnt : Int
structure smX where
  i : Int
def smSt (c : smC) (x : smX) : St := ⟨[(0, .lst c.xs), (1, .lst c.ys), (12, .int .i64 c.cnt), (13, .int .i64 x.i)], []⟩
def smUn (s : St) : Option (smC × smX) :=
  match s with
  | ⟨[(q0, .lst xs), (q1, .lst ys), (q2, .int .i64 cnt), (q3, .int .i64 i)], []⟩ => bif Nat.beq q0 0 && Nat.beq q1 1 && Nat.beq q2 12 && Nat.beq q3 13 then some (⟨xs, ys, cnt⟩, ⟨i⟩) else none
  | _ => none
def smL (inv : smC → smX → smX → Nat → Prop) : LoopS where
  C := smC
  X := smX
  st := smSt
  un := smUn
  ok := by
    intro s c x h
    unfold smUn at h
    split at h
    · simp only [Bool.cond_eq_ite] at h
      split at h
      · rename_i hg
        simp only [Bool.and_eq_true, Nat.beq_eq] at hg
        obtain ⟨⟨⟨rfl, rfl⟩, rfl⟩, rfl⟩ := hg
        cases h
        rfl
      · cases h
    · cases h
  inv := inv

def sepB (c : Int) : Bool := decide (c = 32 ∨ c = 9 ∨ c = 10 ∨ c = 13)

def fd_vc_1 (s : List UInt8) (I : fdC → fdX → fdX → Nat → Prop) (K : V → List Bk → Prop) (x3 : (fdL I).X) (m4 : Nat) : Prop :=
  (
      br (leI 0 x3.3) (
        need (andB (leI 0 x3.4) (leI x3.4 (lenS s))) (
        need (andB (leI 0 x3.3) (leI x3.3 x3.4)) (
        need (headOkP 1 x3.5) (
        br (leN (x3.1 + 1) x3.2) (
          ((fdC.mk s (lenS s) : (fdL I).C) = fdC.mk s (lenS s)) ∧ (
          ∃ m'5 : Nat, (m'5 < m4) ∧ (
          I (fdC.mk s (lenS s)) (fdX.mk 0 0 (-1) 0 []) (fdX.mk (x3.1 + 1) x3.2 (-1) (addI IntKind.i64 x3.4 1) (List.take (0 + x3.1) x3.5 ++ [[V.str (cutS s x3.3 x3.4)]] ++ List.drop (0 + x3.1 + 1) x3.5)) m'5))) (
          need (eqN (0 + x3.1) x3.5.length) (
          need (leN ((x3.1 + 1) * 16) 140737488355328) (
          ((fdC.mk s (lenS s) : (fdL I).C) = fdC.mk s (lenS s)) ∧ (
          ∃ m'5 : Nat, (m'5 < m4) ∧ (
          I (fdC.mk s (lenS s)) (fdX.mk 0 0 (-1) 0 []) (fdX.mk (x3.1 + 1) (x3.1 + 1) (-1) (addI IntKind.i64 x3.4 1) (List.drop 0 x3.5 ++ [[V.str (cutS s x3.3 x3.4)]])) m'5))))))))) (
        ((fdC.mk s (lenS s) : (fdL I).C) = fdC.mk s (lenS s)) ∧ (
        ∃ m'5 : Nat, (m'5 < m4) ∧ (
        I (fdC.mk s (lenS s)) (fdX.mk 0 0 (-1) 0 []) (fdX.mk x3.1 x3.2 (-1) (addI IntKind.i64 x3.4 1) x3.5) m'5))))
theorem fd_vc (s : List UInt8) (I : fdC → fdX → fdX → Nat → Prop) (K : V → List Bk → Prop) : vcF Tryd.prog cfgN (ctOf []) (lpOf [(4, fdL I)]) 16 [.str s] [] K = (
  (∃ m3 : Nat, (m3 < 18446744073709551616) ∧ (
  I (fdC.mk s (lenS s)) (fdX.mk 0 0 (-1) 0 []) (fdX.mk 0 0 (-1) 0 []) m3)) ∧ (
  ∀ x3 : (fdL I).X, ∀ m4 : Nat, (I (fdC.mk s (lenS s)) (fdX.mk 0 0 (-1) 0 []) x3 m4) → (
  br (ltI x3.4 (lenS s)) (
    need (andB (leI 0 x3.4) (ltI x3.4 (lenS s))) (
    br (eqI (atS s x3.4) 32) (fd_vc_1 s I K x3 m4) (
      br (eqI (atS s x3.4) 9) (fd_vc_1 s I K x3 m4) (
        br (eqI (atS s x3.4) 10) (fd_vc_1 s I K x3 m4) (
          br (eqI (atS s x3.4) 13) (fd_vc_1 s I K x3 m4) (
            br (ltI x3.3 0) (
              ((fdC.mk s (lenS s) : (fdL I).C) = fdC.mk s (lenS s)) ∧ (
              ∃ m'5 : Nat, (m'5 < m4) ∧ (
              I (fdC.mk s (lenS s)) (fdX.mk 0 0 (-1) 0 []) (fdX.mk x3.1 x3.2 x3.4 (addI IntKind.i64 x3.4 1) x3.5) m'5))) (
              ((fdC.mk s (lenS s) : (fdL I).C) = fdC.mk s (lenS s)) ∧ (
              ∃ m'5 : Nat, (m'5 < m4) ∧ (
              I (fdC.mk s (lenS s)) (fdX.mk 0 0 (-1) 0 []) (fdX.mk x3.1 x3.2 x3.3 (addI IntKind.i64 x3.4 1) x3.5) m'5))))))))) (
    br (leI 0 x3.3) (
      need (andB (leI 0 x3.3) (leI x3.3 (lenS s))) (
      need (headOkP 1 x3.5) (
      br (leN (x3.1 + 1) x3.2) (
        K (V.lst (List.take (x3.1 + 1) (List.drop 0 (List.take (0 + x3.1) x3.5 ++ [[V.str (cutS s x3.3 (lenS s))]] ++ List.drop (0 + x3.1 + 1) x3.5)))) []) (
        need (eqN (0 + x3.1) x3.5.length) (
        need (leN ((x3.1 + 1) * 16) 140737488355328) (
        K (V.lst (List.take (x3.1 + 1) (List.drop 0 (List.drop 0 x3.5 ++ [[V.str (cutS s x3.3 (lenS s))]])))) [])))))) (
      K (V.lst (List.take x3.1 (List.drop 0 x3.5))) []))))) := by kernel_rfl

def rf_vc_1 (s : List UInt8) (I : rfC → rfX → rfX → Nat → Prop) (K : V → List Bk → Prop) (x3 : (rfL I).X) (m4 : Nat) : Prop :=
  (
        br (ltI x3.3 x3.4) (
          need (andB (leI 0 x3.4) (leI x3.4 (lenS s))) (
          need (andB (leI 0 x3.3) (leI x3.3 x3.4)) (
          need (headOkP 1 x3.5) (
          br (leN (x3.1 + 1) x3.2) (
            ((rfC.mk s : (rfL I).C) = rfC.mk s) ∧ (
            ∃ m'5 : Nat, (m'5 < m4) ∧ (
            I (rfC.mk s) (rfX.mk 0 0 0 0 []) (rfX.mk (x3.1 + 1) x3.2 (addI IntKind.i64 x3.4 1) (addI IntKind.i64 x3.4 1) (List.take (0 + x3.1) x3.5 ++ [[V.str (cutS s x3.3 x3.4)]] ++ List.drop (0 + x3.1 + 1) x3.5)) m'5))) (
            need (eqN (0 + x3.1) x3.5.length) (
            need (leN ((x3.1 + 1) * 16) 140737488355328) (
            ((rfC.mk s : (rfL I).C) = rfC.mk s) ∧ (
            ∃ m'5 : Nat, (m'5 < m4) ∧ (
            I (rfC.mk s) (rfX.mk 0 0 0 0 []) (rfX.mk (x3.1 + 1) (x3.1 + 1) (addI IntKind.i64 x3.4 1) (addI IntKind.i64 x3.4 1) (List.drop 0 x3.5 ++ [[V.str (cutS s x3.3 x3.4)]])) m'5))))))))) (
          ((rfC.mk s : (rfL I).C) = rfC.mk s) ∧ (
          ∃ m'5 : Nat, (m'5 < m4) ∧ (
          I (rfC.mk s) (rfX.mk 0 0 0 0 []) (rfX.mk x3.1 x3.2 (addI IntKind.i64 x3.4 1) (addI IntKind.i64 x3.4 1) x3.5) m'5))))
theorem rf_vc (s : List UInt8) (I : rfC → rfX → rfX → Nat → Prop) (K : V → List Bk → Prop) : vcF Tryd.prog cfgN (ctOf [(28, fun vs bs K => match vs, bs with | [.int .u8 c], [] => K (.bool (sepB c)) [] | _, _ => False)]) (lpOf [(4, rfL I)]) 18 [.str s] [] K = (
  (∃ m3 : Nat, (m3 < 18446744073709551616) ∧ (
  I (rfC.mk s) (rfX.mk 0 0 0 0 []) (rfX.mk 0 0 0 0 []) m3)) ∧ (
  ∀ x3 : (rfL I).X, ∀ m4 : Nat, (I (rfC.mk s) (rfX.mk 0 0 0 0 []) x3 m4) → (
  br (leI x3.4 (lenS s)) (
    br (ltI x3.4 (lenS s)) (
      need (andB (leI 0 x3.4) (ltI x3.4 (lenS s))) (
      br (notB (sepB (atS s x3.4))) (
        ((rfC.mk s : (rfL I).C) = rfC.mk s) ∧ (
        ∃ m'5 : Nat, (m'5 < m4) ∧ (
        I (rfC.mk s) (rfX.mk 0 0 0 0 []) (rfX.mk x3.1 x3.2 x3.3 (addI IntKind.i64 x3.4 1) x3.5) m'5))) (rf_vc_1 s I K x3 m4))) (rf_vc_1 s I K x3 m4)) (
    K (V.lst (List.take x3.1 (List.drop 0 x3.5))) [])))) := by kernel_rfl

theorem sm_vc (xs ys : List (List V)) (I : smC → smX → smX → Nat → Prop) (K : V → List Bk → Prop) : vcF Tryd.prog cfgN (ctOf []) (lpOf [(4, smL I)]) 17 [.lst xs, .lst ys] [] K = (
  br (notB (eqI (lenL xs) (lenL ys))) (
    K (V.bool false) []) (
    (∃ m4 : Nat, (m4 < 18446744073709551616) ∧ (
    I (smC.mk xs ys (lenL xs)) (smX.mk 0) (smX.mk 0) m4)) ∧ (
    ∀ x4 : (smL I).X, ∀ m5 : Nat, (I (smC.mk xs ys (lenL xs)) (smX.mk 0) x4 m5) → (
    br (ltI x4.1 (lenL xs)) (
      need (andB (leI 0 x4.1) (ltI x4.1 (lenL xs))) (
      need (okRow xs x4.1.toNat 1) (
      ∃ s6 : List UInt8, ((sub (rowAt xs x4.1) 0 1 : Option (List V)) = some [V.str s6]) ∧ (
      need (andB (leI 0 x4.1) (ltI x4.1 (lenL ys))) (
      need (okRow ys x4.1.toNat 1) (
      ∃ s7 : List UInt8, ((sub (rowAt ys x4.1) 0 1 : Option (List V)) = some [V.str s7]) ∧ (
      br (notB (eqS s6 s7)) (
        K (V.bool false) []) (
        ((smC.mk xs ys (lenL xs) : (smL I).C) = smC.mk xs ys (lenL xs)) ∧ (
        ∃ m'8 : Nat, (m'8 < m5) ∧ (
        I (smC.mk xs ys (lenL xs)) (smX.mk 0) (smX.mk (addI IntKind.i64 x4.1 1)) m'8)))))))))) (
      K (V.bool true) []))))) := by kernel_rfl

theorem sep_vc (c : Int) (K : V → List Bk → Prop) : vcF Tryd.prog cfgN (ctOf []) (lpOf []) 28 [.int .u8 c] [] K = (
  br (eqI c 32) (
    K (V.bool true) []) (
    br (eqI c 9) (
      K (V.bool true) []) (
      br (eqI c 10) (
        K (V.bool true) []) (
        K (V.bool (eqI c 13)) [])))) := by kernel_rfl

theorem add_vc (a b m : Int) (K : V → List Bk → Prop) : vcF Tryd.prog cfgN (ctOf []) (lpOf []) 19 [.int .i64 a, .int .i64 b, .int .i64 m] [] K = (
  br (ltI a 0) (
    K (V.tup [V.int IntKind.i64 0, V.int IntKind.i64 1]) []) (
    br (ltI b 0) (
      K (V.tup [V.int IntKind.i64 0, V.int IntKind.i64 1]) []) (
      br (ltI m 0) (
        K (V.tup [V.int IntKind.i64 0, V.int IntKind.i64 1]) []) (
        br (ltI m a) (
          K (V.tup [V.int IntKind.i64 0, V.int IntKind.i64 5]) []) (
          br (ltI (subI IntKind.i64 m a) b) (
            K (V.tup [V.int IntKind.i64 0, V.int IntKind.i64 5]) []) (
            K (V.tup [V.int IntKind.i64 (addI IntKind.i64 a b), V.int IntKind.i64 0]) [])))))) := by kernel_rfl

theorem radd_vc (a b m : Int) (K : V → List Bk → Prop) : vcF Tryd.prog cfgN (ctOf []) (lpOf []) 20 [.int .i64 a, .int .i64 b, .int .i64 m] [] K = (
  br (ltI a 0) (
    K (V.tup [V.int IntKind.i64 0, V.int IntKind.i64 1]) []) (
    br (ltI b 0) (
      K (V.tup [V.int IntKind.i64 0, V.int IntKind.i64 1]) []) (
      br (ltI m 0) (
        K (V.tup [V.int IntKind.i64 0, V.int IntKind.i64 1]) []) (
        br (ltI m a) (
          K (V.tup [V.int IntKind.i64 0, V.int IntKind.i64 5]) []) (
          br (ltI (subI IntKind.i64 m a) b) (
            K (V.tup [V.int IntKind.i64 0, V.int IntKind.i64 5]) []) (
            K (V.tup [V.int IntKind.i64 (addI IntKind.i64 a b), V.int IntKind.i64 0]) [])))))) := by kernel_rfl

def addF (a b m : Int) : V :=
  if a < 0 ∨ b < 0 ∨ m < 0 then .tup [.int .i64 0, .int .i64 1]
  else if m < a ∨ m - a < b then .tup [.int .i64 0, .int .i64 5]
  else .tup [.int .i64 (a + b), .int .i64 0]
theorem add_run {n : Nat} (hn : 1 ≤ n) {a b m : Int} (ha : -9223372036854775808 ≤ a ∧ a ≤ 9223372036854775807) (hb : -9223372036854775808 ≤ b ∧ b ≤ 9223372036854775807) (hm : -9223372036854775808 ≤ m ∧ m ≤ 9223372036854775807) :
    ∃ r out, evalF Tryd.prog cfgN n 19 [.int .i64 a, .int .i64 b, .int .i64 m] [] = some (r, out) ∧ r = addF a b m ∧ out = [] := by
  refine run_of (lp := lpOf []) hn (fun k _ => noCt_ok _) ?_
  rw [add_vc]
  simp only [br_iff, need_iff, andB_t, andB_f, orB_t, orB_f, notB_t, notB_f, leI_t, leI_f, ltI_t, ltI_f, eqI_t, eqI_f, leN_t, leN_f, eqN_t, eqN_f, eqS_t, eqS_f, eqB_t, eqB_f, catOk_t, leC_t]
  refine ⟨fun h => ⟨by simp [addF, h], trivial⟩, fun h1 => ⟨fun h => ⟨by simp [addF, h], trivial⟩, fun h2 => ⟨fun h => ⟨by simp [addF, h], trivial⟩, fun h3 => ⟨fun h => ⟨?_, trivial⟩, fun h4 => ?_⟩⟩⟩⟩
  · unfold addF
    rw [if_neg (by omega), if_pos (.inl h)]
  · have hs : subI .i64 m a = m - a := subI_i64 (by omega) (by omega)
    rw [hs]
    refine ⟨fun h => ⟨?_, trivial⟩, fun h5 => ⟨?_, trivial⟩⟩
    · unfold addF
      rw [if_neg (by omega), if_pos (.inr h)]
    · have ha : addI .i64 a b = a + b := addI_i64 (by omega) (by omega)
      rw [ha]
      unfold addF
      rw [if_neg (by omega), if_neg (by omega)]
theorem radd_run {n : Nat} (hn : 1 ≤ n) {a b m : Int} (ha : -9223372036854775808 ≤ a ∧ a ≤ 9223372036854775807) (hb : -9223372036854775808 ≤ b ∧ b ≤ 9223372036854775807) (hm : -9223372036854775808 ≤ m ∧ m ≤ 9223372036854775807) :
    ∃ r out, evalF Tryd.prog cfgN n 20 [.int .i64 a, .int .i64 b, .int .i64 m] [] = some (r, out) ∧ r = addF a b m ∧ out = [] := by
  refine run_of (lp := lpOf []) hn (fun k _ => noCt_ok _) ?_
  rw [radd_vc]
  simp only [br_iff, need_iff, andB_t, andB_f, orB_t, orB_f, notB_t, notB_f, leI_t, leI_f, ltI_t, ltI_f, eqI_t, eqI_f, leN_t, leN_f, eqN_t, eqN_f, eqS_t, eqS_f, eqB_t, eqB_f, catOk_t, leC_t]
  refine ⟨fun h => ⟨by simp [addF, h], trivial⟩, fun h1 => ⟨fun h => ⟨by simp [addF, h], trivial⟩, fun h2 => ⟨fun h => ⟨by simp [addF, h], trivial⟩, fun h3 => ⟨fun h => ⟨?_, trivial⟩, fun h4 => ?_⟩⟩⟩⟩
  · unfold addF
    rw [if_neg (by omega), if_pos (.inl h)]
  · have hs : subI .i64 m a = m - a := subI_i64 (by omega) (by omega)
    rw [hs]
    refine ⟨fun h => ⟨?_, trivial⟩, fun h5 => ⟨?_, trivial⟩⟩
    · unfold addF
      rw [if_neg (by omega), if_pos (.inr h)]
    · have ha : addI .i64 a b = a + b := addI_i64 (by omega) (by omega)
      rw [ha]
      unfold addF
      rw [if_neg (by omega), if_neg (by omega)]
def smI (a b : List (List UInt8)) (x : smX) (m : Nat) : Prop := ∃ i : Nat, x.i = (i : Int) ∧ i + m = a.length ∧ a.take i = b.take i
theorem same_run {n : Nat} (hn : 1 ≤ n) (a b : List (List UInt8)) (hz : a.length < 4611686018427387904) : ∃ r out, evalF Tryd.prog cfgN n 17 [.lst (rowsS a), .lst (rowsS b)] [] = some (r, out) ∧ r = .bool (decide (a = b)) ∧ out = [] := by
  refine run_of (lp := lpOf [(4, smL fun _ _ x m => smI a b x m)]) hn (fun k _ => noCt_ok _) ?_
  rw [sm_vc]
  have e1 : lenL (rowsS a) = (a.length : Int) := by simp [lenL, rowsS]
  have e2 : lenL (rowsS b) = (b.length : Int) := by simp [lenL, rowsS]
  rw [br_iff]
  refine ⟨fun h => ?_, fun h => ?_⟩
  · simp only [br_iff, need_iff, andB_t, andB_f, orB_t, orB_f, notB_t, notB_f, leI_t, leI_f, ltI_t, ltI_f, eqI_t, eqI_f, leN_t, leN_f, eqN_t, eqN_f, eqS_t, eqS_f, eqB_t, eqB_f, catOk_t, leC_t, e1, e2] at h
    have : ¬ a = b := by rintro rfl; omega
    exact ⟨by simp [this], rfl⟩
  · simp only [br_iff, need_iff, andB_t, andB_f, orB_t, orB_f, notB_t, notB_f, leI_t, leI_f, ltI_t, ltI_f, eqI_t, eqI_f, leN_t, leN_f, eqN_t, eqN_f, eqS_t, eqS_f, eqB_t, eqB_f, catOk_t, leC_t, e1, e2] at h
    have hl : a.length = b.length := by omega
    refine ⟨⟨a.length, by omega, 0, rfl, by omega, by simp⟩, ?_⟩
    rintro ⟨xi⟩ m ⟨i, rfl, hi, hp⟩
    simp only [br_iff, need_iff, andB_t, andB_f, orB_t, orB_f, notB_t, notB_f, leI_t, leI_f, ltI_t, ltI_f, eqI_t, eqI_f, leN_t, leN_f, eqN_t, eqN_f, eqS_t, eqS_f, eqB_t, eqB_f, catOk_t, leC_t, e1, e2, Int.toNat_natCast]
    refine ⟨fun hlt => ?_, fun hge => ?_⟩
    · have hlt : i < a.length := by omega
      have hlt2 : i < b.length := by omega
      refine ⟨⟨by omega, by omega⟩, rowsS_ok hlt, a[i], rowsS_at hlt, ⟨by omega, by omega⟩, rowsS_ok hlt2, b[i], rowsS_at hlt2, fun hne => ?_, fun heq => ?_⟩
      · have : ¬ a = b := by rintro rfl; exact hne rfl
        exact ⟨by simp [this], trivial⟩
      · refine ⟨trivial, m - 1, by omega, i + 1, ?_, by omega, ?_⟩
        · simp only; rw [addI_i64 (by omega) (by omega)]; omega
        · rw [List.take_succ_eq_append_getElem hlt, List.take_succ_eq_append_getElem hlt2, hp, heq]
    · have : i = a.length := by omega
      subst this
      rw [List.take_of_length_le (by omega), List.take_of_length_le (by omega)] at hp
      exact ⟨by simp [hp], trivial⟩
/-- The runs of bytes between separators; behind the bytes of a run that has begun. -/
def fieldsGo : List UInt8 → List UInt8 → List (List UInt8)
  | [], cur => if cur = [] then [] else [cur]
  | c :: t, cur => if sepB c.toNat = true then (if cur = [] then fieldsGo t [] else cur :: fieldsGo t []) else fieldsGo t (cur ++ [c])
def fieldsF (s : List UInt8) : List (List UInt8) := fieldsGo s []
theorem cut_ne {s : List UInt8} {f k : Nat} (h1 : f < k) (h2 : k ≤ s.length) : cutS s (f : Int) (k : Int) ≠ [] := by
  intro h
  have := congrArg List.length h
  rw [cutS_nat] at this
  simp at this
  omega
def fdI (s : List UInt8) (x : fdX) (m : Nat) : Prop := ∃ (k : Nat) (acc : List (List UInt8)), x.i = (k : Int) ∧ k + m = s.length ∧ x.es = rowsS acc ∧ x.len = acc.length ∧ x.cm = acc.length ∧ acc.length ≤ k ∧
  ((x.frm = -1 ∧ acc ++ fieldsGo (s.drop k) [] = fieldsF s) ∨ ∃ f : Nat, x.frm = (f : Int) ∧ f < k ∧ acc ++ fieldsGo (s.drop k) (cutS s (f : Int) (k : Int)) = fieldsF s)
theorem fields_run {n : Nat} (hn : 1 ≤ n) (s : List UInt8) (hs : s.length ≤ 1099511627776) : ∃ r out, evalF Tryd.prog cfgN n 16 [.str s] [] = some (r, out) ∧ r = .lst (rowsS (fieldsF s)) ∧ out = [] := by
  refine run_of (lp := lpOf [(4, fdL fun _ _ x m => fdI s x m)]) hn (fun k _ => noCt_ok _) ?_
  rw [fd_vc]
  refine ⟨⟨s.length, by omega, 0, [], rfl, by omega, rfl, rfl, rfl, by simp, .inl ⟨rfl, rfl⟩⟩, ?_⟩
  rintro ⟨len, cm, frm, i, es⟩ m ⟨k, acc, rfl, hk, rfl, rfl, rfl, hacc, hf⟩
  simp only at hf ⊢
  have hrl := rowsS_len acc
  have hrow := rowsS_one acc
  rw [br_iff]
  refine ⟨fun hlt => ?_, fun hge => ?_⟩
  · have hlt : k < s.length := by simp only [br_iff, need_iff, andB_t, andB_f, orB_t, orB_f, notB_t, notB_f, leI_t, leI_f, ltI_t, ltI_f, eqI_t, eqI_f, leN_t, leN_f, eqN_t, eqN_f, eqS_t, eqS_f, eqB_t, eqB_f, catOk_t, leC_t, lenS] at hlt; omega
    rw [List.drop_eq_getElem_cons hlt] at hf
    rw [need_iff]
    refine ⟨by simp only [br_iff, need_iff, andB_t, andB_f, orB_t, orB_f, notB_t, notB_f, leI_t, leI_f, ltI_t, ltI_f, eqI_t, eqI_f, leN_t, leN_f, eqN_t, eqN_f, eqS_t, eqS_f, eqB_t, eqB_f, catOk_t, leC_t, lenS]; omega, ?_⟩
    rw [atS_at hlt]
    have hadd : addI .i64 (k : Int) 1 = ((k + 1 : Nat) : Int) := by rw [addI_i64 (by omega) (by omega)]; omega
    have sep : sepB (s[k].toNat : Int) = true → fd_vc_1 s (fun _ _ x m => fdI s x m) (fun r out => r = .lst (rowsS (fieldsF s)) ∧ out = []) ⟨acc.length, acc.length, frm, k, rowsS acc⟩ m := by
      intro hsep
      unfold fd_vc_1
      simp only [hadd]
      rw [br_iff]
      refine ⟨fun h => ?_, fun h => ?_⟩
      · simp only [br_iff, need_iff, andB_t, andB_f, orB_t, orB_f, notB_t, notB_f, leI_t, leI_f, ltI_t, ltI_f, eqI_t, eqI_f, leN_t, leN_f, eqN_t, eqN_f, eqS_t, eqS_f, eqB_t, eqB_f, catOk_t, leC_t] at h
        rcases hf with ⟨rfl, _⟩ | ⟨f, rfl, hfk, hf⟩
        · omega
        · have hne := cut_ne hfk (by omega : k ≤ s.length)
          simp only [fieldsGo, hsep, if_true, hne, if_false] at hf
          refine need_iff.2 ⟨by simp only [br_iff, need_iff, andB_t, andB_f, orB_t, orB_f, notB_t, notB_f, leI_t, leI_f, ltI_t, ltI_f, eqI_t, eqI_f, leN_t, leN_f, eqN_t, eqN_f, eqS_t, eqS_f, eqB_t, eqB_f, catOk_t, leC_t, lenS]; omega, need_iff.2 ⟨by simp only [br_iff, need_iff, andB_t, andB_f, orB_t, orB_f, notB_t, notB_f, leI_t, leI_f, ltI_t, ltI_f, eqI_t, eqI_f, leN_t, leN_f, eqN_t, eqN_f, eqS_t, eqS_f, eqB_t, eqB_f, catOk_t, leC_t]; omega, need_iff.2 ⟨headOkP1 hrow, ?_⟩⟩⟩
          refine app_br rfl hrl (by omega) ⟨by trivial, m - 1, by omega, k + 1, acc ++ [cutS s f k], rfl, by omega, ?_, by simp, by simp, by simp; omega, .inl ⟨rfl, ?_⟩⟩
          · rw [rowsS_app]; rfl
          · rw [← hf]; simp
      · simp only [br_iff, need_iff, andB_t, andB_f, orB_t, orB_f, notB_t, notB_f, leI_t, leI_f, ltI_t, ltI_f, eqI_t, eqI_f, leN_t, leN_f, eqN_t, eqN_f, eqS_t, eqS_f, eqB_t, eqB_f, catOk_t, leC_t] at h
        rcases hf with ⟨rfl, hf⟩ | ⟨f, rfl, _⟩
        · simp only [fieldsGo, hsep, if_true] at hf
          exact ⟨by trivial, m - 1, by omega, k + 1, acc, rfl, by omega, rfl, rfl, rfl, by omega, .inl ⟨rfl, hf⟩⟩
        · omega
    have hsb : sepB (s[k].toNat : Int) = true ↔ ((s[k].toNat : Int) = 32 ∨ (s[k].toNat : Int) = 9 ∨ (s[k].toNat : Int) = 10 ∨ (s[k].toNat : Int) = 13) := by simp [sepB]
    rw [br_iff]
    refine ⟨fun h => sep (hsb.2 (.inl (by simpa only [br_iff, need_iff, andB_t, andB_f, orB_t, orB_f, notB_t, notB_f, leI_t, leI_f, ltI_t, ltI_f, eqI_t, eqI_f, leN_t, leN_f, eqN_t, eqN_f, eqS_t, eqS_f, eqB_t, eqB_f, catOk_t, leC_t] using h))), fun g1 => ?_⟩
    rw [br_iff]
    refine ⟨fun h => sep (hsb.2 (.inr (.inl (by simpa only [br_iff, need_iff, andB_t, andB_f, orB_t, orB_f, notB_t, notB_f, leI_t, leI_f, ltI_t, ltI_f, eqI_t, eqI_f, leN_t, leN_f, eqN_t, eqN_f, eqS_t, eqS_f, eqB_t, eqB_f, catOk_t, leC_t] using h)))), fun g2 => ?_⟩
    rw [br_iff]
    refine ⟨fun h => sep (hsb.2 (.inr (.inr (.inl (by simpa only [br_iff, need_iff, andB_t, andB_f, orB_t, orB_f, notB_t, notB_f, leI_t, leI_f, ltI_t, ltI_f, eqI_t, eqI_f, leN_t, leN_f, eqN_t, eqN_f, eqS_t, eqS_f, eqB_t, eqB_f, catOk_t, leC_t] using h))))), fun g3 => ?_⟩
    rw [br_iff]
    refine ⟨fun h => sep (hsb.2 (.inr (.inr (.inr (by simpa only [br_iff, need_iff, andB_t, andB_f, orB_t, orB_f, notB_t, notB_f, leI_t, leI_f, ltI_t, ltI_f, eqI_t, eqI_f, leN_t, leN_f, eqN_t, eqN_f, eqS_t, eqS_f, eqB_t, eqB_f, catOk_t, leC_t] using h))))), fun g4 => ?_⟩
    simp only [br_iff, need_iff, andB_t, andB_f, orB_t, orB_f, notB_t, notB_f, leI_t, leI_f, ltI_t, ltI_f, eqI_t, eqI_f, leN_t, leN_f, eqN_t, eqN_f, eqS_t, eqS_f, eqB_t, eqB_f, catOk_t, leC_t] at g1 g2 g3 g4
    have hns : ¬ sepB (s[k].toNat : Int) = true := by rw [hsb]; omega
    simp only [fieldsGo, hns, if_false] at hf
    rw [hadd, br_iff]
    refine ⟨fun h => ?_, fun h => ?_⟩
    · simp only [br_iff, need_iff, andB_t, andB_f, orB_t, orB_f, notB_t, notB_f, leI_t, leI_f, ltI_t, ltI_f, eqI_t, eqI_f, leN_t, leN_f, eqN_t, eqN_f, eqS_t, eqS_f, eqB_t, eqB_f, catOk_t, leC_t] at h
      rcases hf with ⟨rfl, hf⟩ | ⟨f, rfl, _⟩
      · refine ⟨by trivial, m - 1, by omega, k + 1, acc, rfl, by omega, rfl, rfl, rfl, by omega, .inr ⟨k, rfl, by omega, ?_⟩⟩
        rw [cutS_succ (Nat.le_refl _) hlt, ← hf]
        simp [cutS_nat]
      · omega
    · simp only [br_iff, need_iff, andB_t, andB_f, orB_t, orB_f, notB_t, notB_f, leI_t, leI_f, ltI_t, ltI_f, eqI_t, eqI_f, leN_t, leN_f, eqN_t, eqN_f, eqS_t, eqS_f, eqB_t, eqB_f, catOk_t, leC_t] at h
      rcases hf with ⟨rfl, _⟩ | ⟨f, rfl, hfk, hf⟩
      · omega
      · refine ⟨by trivial, m - 1, by omega, k + 1, acc, rfl, by omega, rfl, rfl, rfl, by omega, .inr ⟨f, rfl, by omega, ?_⟩⟩
        rw [cutS_succ (by omega) hlt]
        exact hf
  · have hk2 : k = s.length := by simp only [br_iff, need_iff, andB_t, andB_f, orB_t, orB_f, notB_t, notB_f, leI_t, leI_f, ltI_t, ltI_f, eqI_t, eqI_f, leN_t, leN_f, eqN_t, eqN_f, eqS_t, eqS_f, eqB_t, eqB_f, catOk_t, leC_t, lenS] at hge; omega
    subst hk2
    rw [List.drop_length] at hf
    rw [br_iff]
    refine ⟨fun h => ?_, fun h => ?_⟩
    · simp only [br_iff, need_iff, andB_t, andB_f, orB_t, orB_f, notB_t, notB_f, leI_t, leI_f, ltI_t, ltI_f, eqI_t, eqI_f, leN_t, leN_f, eqN_t, eqN_f, eqS_t, eqS_f, eqB_t, eqB_f, catOk_t, leC_t] at h
      rcases hf with ⟨rfl, _⟩ | ⟨f, rfl, hfk, hf⟩
      · omega
      · have hne := cut_ne hfk (Nat.le_refl s.length)
        simp only [fieldsGo, hne, if_false] at hf
        have e : rowsS acc ++ [[V.str (cutS s (f : Int) (lenS s))]] = rowsS (fieldsF s) := by rw [← hf, rowsS_app]; rfl
        refine need_iff.2 ⟨by simp only [br_iff, need_iff, andB_t, andB_f, orB_t, orB_f, notB_t, notB_f, leI_t, leI_f, ltI_t, ltI_f, eqI_t, eqI_f, leN_t, leN_f, eqN_t, eqN_f, eqS_t, eqS_f, eqB_t, eqB_f, catOk_t, leC_t, lenS]; omega, need_iff.2 ⟨headOkP1 hrow, ?_⟩⟩
        refine app_br rfl hrl (by omega) ⟨?_, by trivial⟩
        simp only [List.drop_zero]
        rw [e, List.take_of_length_le (by rw [rowsS_len, ← hf]; simp)]
    · simp only [br_iff, need_iff, andB_t, andB_f, orB_t, orB_f, notB_t, notB_f, leI_t, leI_f, ltI_t, ltI_f, eqI_t, eqI_f, leN_t, leN_f, eqN_t, eqN_f, eqS_t, eqS_f, eqB_t, eqB_f, catOk_t, leC_t] at h
      rcases hf with ⟨rfl, hf⟩ | ⟨f, rfl, _⟩
      · simp only [fieldsGo, if_true, List.append_nil] at hf
        rw [← hf]
        simp only [List.drop_zero]
        exact ⟨by rw [List.take_of_length_le (by omega)], by trivial⟩
      · omega
def rfI (s : List UInt8) (x : rfX) (m : Nat) : Prop := ∃ (k : Nat) (acc : List (List UInt8)), x.i = (k : Int) ∧ k + m = s.length + 1 ∧ x.es = rowsS acc ∧ x.len = acc.length ∧ x.cm = acc.length ∧ acc.length ≤ k ∧
  ((k ≤ s.length ∧ ∃ f : Nat, x.frm = (f : Int) ∧ f ≤ k ∧ acc ++ fieldsGo (s.drop k) (cutS s (f : Int) (k : Int)) = fieldsF s) ∨ (k = s.length + 1 ∧ acc = fieldsF s))
theorem cut_nil {s : List UInt8} {f : Nat} : cutS s (f : Int) (f : Int) = [] := by rw [cutS_nat]; simp
theorem rfields_run {n : Nat} (hn : 2 ≤ n) (s : List UInt8) (hs : s.length ≤ 1099511627776) : ∃ r out, evalF Tryd.prog cfgN n 18 [.str s] [] = some (r, out) ∧ r = .lst (rowsS (fieldsF s)) ∧ out = [] := by
  refine run_of (lp := lpOf [(4, rfL fun _ _ x m => rfI s x m)]) (ct := ctOf [(28, fun vs bs K => match vs, bs with | [.int .u8 c], [] => K (.bool (sepB c)) [] | _, _ => False)]) (by omega) (fun k hk => ctOf_ok (ctOf_cons ?_ (ctOf_nil _))) ?_
  · intro vs bs K h
    try dsimp only at h
    split at h
    · rename_i c
      have : ∃ r out, evalF Tryd.prog cfgN k 28 [.int .u8 c] [] = some (r, out) ∧ r = .bool (sepB c) ∧ out = [] := by
        refine run_of (lp := lpOf []) (by omega) (fun k _ => noCt_ok _) ?_
        rw [sep_vc]
        simp only [br_iff, need_iff, andB_t, andB_f, orB_t, orB_f, notB_t, notB_f, leI_t, leI_f, ltI_t, ltI_f, eqI_t, eqI_f, leN_t, leN_f, eqN_t, eqN_f, eqS_t, eqS_f, eqB_t, eqB_f, catOk_t, leC_t]
        refine ⟨fun h => ⟨by simp [sepB, h], trivial⟩, fun h1 => ⟨fun h => ⟨by simp [sepB, h], trivial⟩, fun h2 => ⟨fun h => ⟨by simp [sepB, h], trivial⟩, fun h3 => ⟨by simp [sepB, h1, h2, h3, eqI], trivial⟩⟩⟩⟩
      obtain ⟨r, out, e, rfl, rfl⟩ := this
      exact ⟨_, _, e, h⟩
    · exact h.elim
  rw [rf_vc]
  refine ⟨⟨s.length + 1, by omega, 0, [], rfl, by omega, rfl, rfl, rfl, by simp, .inl ⟨by omega, 0, rfl, by omega, by rw [cut_nil]; rfl⟩⟩, ?_⟩
  rintro ⟨len, cm, frm, i, es⟩ m ⟨k, acc, rfl, hk, rfl, rfl, rfl, hacc, hf⟩
  simp only at hf ⊢
  have hrl := rowsS_len acc
  have hrow := rowsS_one acc
  rw [br_iff]
  refine ⟨fun hle => ?_, fun hge => ?_⟩
  · have hle : k ≤ s.length := by simp only [br_iff, need_iff, andB_t, andB_f, orB_t, orB_f, notB_t, notB_f, leI_t, leI_f, ltI_t, ltI_f, eqI_t, eqI_f, leN_t, leN_f, eqN_t, eqN_f, eqS_t, eqS_f, eqB_t, eqB_f, catOk_t, leC_t, lenS] at hle; omega
    have hadd : addI .i64 (k : Int) 1 = ((k + 1 : Nat) : Int) := by rw [addI_i64 (by omega) (by omega)]; omega
    obtain ⟨f, rfl, hfk, hf⟩ : ∃ f : Nat, frm = (f : Int) ∧ f ≤ k ∧ acc ++ fieldsGo (s.drop k) (cutS s (f : Int) (k : Int)) = fieldsF s := by
      rcases hf with ⟨_, h⟩ | ⟨h, _⟩
      · exact h
      · omega
    have sep : (∀ h : k < s.length, sepB (s[k].toNat : Int) = true) → rf_vc_1 s (fun _ _ x m => rfI s x m) (fun r out => r = .lst (rowsS (fieldsF s)) ∧ out = []) ⟨acc.length, acc.length, f, k, rowsS acc⟩ m := by
      intro hsep
      unfold rf_vc_1
      have fin : ∀ acc' : List (List UInt8), acc' = (if cutS s (f : Int) (k : Int) = [] then acc else acc ++ [cutS s (f : Int) (k : Int)]) → ((k + 1 ≤ s.length ∧ ∃ f : Nat, ((k + 1 : Nat) : Int) = (f : Int) ∧ f ≤ k + 1 ∧ acc' ++ fieldsGo (s.drop (k + 1)) (cutS s (f : Int) ((k + 1 : Nat) : Int)) = fieldsF s) ∨ (k + 1 = s.length + 1 ∧ acc' = fieldsF s)) := by
        rintro acc' rfl
        rcases Nat.lt_or_ge k s.length with hlt | hge
        · left
          refine ⟨hlt, k + 1, rfl, by omega, ?_⟩
          rw [List.drop_eq_getElem_cons hlt] at hf
          rw [cut_nil]
          simp only [fieldsGo, hsep hlt, if_true] at hf
          rw [← hf]
          split <;> simp
        · right
          have : k = s.length := by omega
          subst this
          refine ⟨rfl, ?_⟩
          rw [List.drop_length] at hf
          simp only [fieldsGo] at hf
          rw [← hf]
          split <;> simp
      simp only [hadd]
      rw [br_iff]
      refine ⟨fun h => ?_, fun h => ?_⟩
      · simp only [br_iff, need_iff, andB_t, andB_f, orB_t, orB_f, notB_t, notB_f, leI_t, leI_f, ltI_t, ltI_f, eqI_t, eqI_f, leN_t, leN_f, eqN_t, eqN_f, eqS_t, eqS_f, eqB_t, eqB_f, catOk_t, leC_t] at h
        have hne := cut_ne (show f < k by omega) hle
        refine need_iff.2 ⟨by simp only [br_iff, need_iff, andB_t, andB_f, orB_t, orB_f, notB_t, notB_f, leI_t, leI_f, ltI_t, ltI_f, eqI_t, eqI_f, leN_t, leN_f, eqN_t, eqN_f, eqS_t, eqS_f, eqB_t, eqB_f, catOk_t, leC_t, lenS]; omega, need_iff.2 ⟨by simp only [br_iff, need_iff, andB_t, andB_f, orB_t, orB_f, notB_t, notB_f, leI_t, leI_f, ltI_t, ltI_f, eqI_t, eqI_f, leN_t, leN_f, eqN_t, eqN_f, eqS_t, eqS_f, eqB_t, eqB_f, catOk_t, leC_t]; omega, need_iff.2 ⟨headOkP1 hrow, ?_⟩⟩⟩
        refine app_br rfl hrl (by omega) ⟨by trivial, m - 1, by omega, k + 1, acc ++ [cutS s f k], rfl, by omega, ?_, by simp, by simp, by simp; omega, fin _ (by rw [if_neg hne])⟩
        rw [rowsS_app]; rfl
      · simp only [br_iff, need_iff, andB_t, andB_f, orB_t, orB_f, notB_t, notB_f, leI_t, leI_f, ltI_t, ltI_f, eqI_t, eqI_f, leN_t, leN_f, eqN_t, eqN_f, eqS_t, eqS_f, eqB_t, eqB_f, catOk_t, leC_t] at h
        have : f = k := by omega
        subst this
        exact ⟨by trivial, m - 1, by omega, f + 1, acc, rfl, by omega, rfl, rfl, rfl, by omega, fin _ (by rw [if_pos cut_nil])⟩
    rw [br_iff]
    refine ⟨fun hlt => ?_, fun hge => ?_⟩
    · have hlt : k < s.length := by simp only [br_iff, need_iff, andB_t, andB_f, orB_t, orB_f, notB_t, notB_f, leI_t, leI_f, ltI_t, ltI_f, eqI_t, eqI_f, leN_t, leN_f, eqN_t, eqN_f, eqS_t, eqS_f, eqB_t, eqB_f, catOk_t, leC_t, lenS] at hlt; omega
      rw [need_iff]
      refine ⟨by simp only [br_iff, need_iff, andB_t, andB_f, orB_t, orB_f, notB_t, notB_f, leI_t, leI_f, ltI_t, ltI_f, eqI_t, eqI_f, leN_t, leN_f, eqN_t, eqN_f, eqS_t, eqS_f, eqB_t, eqB_f, catOk_t, leC_t, lenS]; omega, ?_⟩
      rw [atS_at hlt, br_iff]
      refine ⟨fun h => ?_, fun h => ?_⟩
      · have hns : ¬ sepB (s[k].toNat : Int) = true := by simp only [br_iff, need_iff, andB_t, andB_f, orB_t, orB_f, notB_t, notB_f, leI_t, leI_f, ltI_t, ltI_f, eqI_t, eqI_f, leN_t, leN_f, eqN_t, eqN_f, eqS_t, eqS_f, eqB_t, eqB_f, catOk_t, leC_t] at h; simp [h]
        rw [List.drop_eq_getElem_cons hlt] at hf
        simp only [fieldsGo, hns, if_false] at hf
        rw [hadd]
        refine ⟨by trivial, m - 1, by omega, k + 1, acc, rfl, by omega, rfl, rfl, rfl, by omega, .inl ⟨hlt, f, rfl, by omega, ?_⟩⟩
        rw [cutS_succ hfk hlt]
        exact hf
      · exact sep fun _ => by simpa only [br_iff, need_iff, andB_t, andB_f, orB_t, orB_f, notB_t, notB_f, leI_t, leI_f, ltI_t, ltI_f, eqI_t, eqI_f, leN_t, leN_f, eqN_t, eqN_f, eqS_t, eqS_f, eqB_t, eqB_f, catOk_t, leC_t] using h
    · refine sep fun h => ?_
      simp only [br_iff, need_iff, andB_t, andB_f, orB_t, orB_f, notB_t, notB_f, leI_t, leI_f, ltI_t, ltI_f, eqI_t, eqI_f, leN_t, leN_f, eqN_t, eqN_f, eqS_t, eqS_f, eqB_t, eqB_f, catOk_t, leC_t, lenS] at hge
      omega
  · simp only [br_iff, need_iff, andB_t, andB_f, orB_t, orB_f, notB_t, notB_f, leI_t, leI_f, ltI_t, ltI_f, eqI_t, eqI_f, leN_t, leN_f, eqN_t, eqN_f, eqS_t, eqS_f, eqB_t, eqB_f, catOk_t, leC_t, lenS] at hge
    rcases hf with ⟨h, _⟩ | ⟨_, rfl⟩
    · omega
    · simp only [List.drop_zero]
      exact ⟨by rw [List.take_of_length_le (by omega)], by trivial⟩
end Go.Proofs.YtfeoeiphlgakcaaDoor
namespace Go.Proofs.YtfeoeiphlgakcaaDoor
open Go.RowKit
set_option maxRecDepth 100000
set_option linter.unusedVariables false
set_option linter.unusedSimpArgs false
def okCon : Con := fun vs bs K => match vs, bs with
  | [], [] => K (.bool true) []
  | _, _ => False

def padCon : Con := fun vs bs K => match vs, bs with
  | [.int .i64 n, .int .i64 b, .int .i64 w], [] => need (andB (leI (-9223372036854775808) n) (leI n 9223372036854775807)) (K (.str (padF n b w)) [])
  | _, _ => False

def numOf (v : V) : Int := match v with
  | .tup [.int _ n, _] => n
  | _ => 0

def errOf (v : V) : Int := match v with
  | .tup [_, .int _ n] => n
  | _ => 0

def parCon : Con := fun vs bs K => match vs, bs with
  | [.str s, .int .i64 b, .int .i64 most], [] => need (andB (leI (lenS s) 4611686018427387904) (andB (leI (-9223372036854775808) most) (leI most 9223372036854775807))) (K (.tup [.int .i64 (numOf (parseF s b most)), .int .i64 (errOf (parseF s b most))]) [])
  | _, _ => False

def addCon : Con := fun vs bs K => match vs, bs with
  | [.int .i64 a, .int .i64 b, .int .i64 m], [] => need (andB (andB (leI (-9223372036854775808) a) (leI a 9223372036854775807)) (andB (andB (leI (-9223372036854775808) b) (leI b 9223372036854775807)) (andB (leI (-9223372036854775808) m) (leI m 9223372036854775807)))) (K (.tup [.int .i64 (numOf (addF a b m)), .int .i64 (errOf (addF a b m))]) [])
  | _, _ => False

theorem texts_vc (n b w : Int) (K : V → List Bk → Prop) : vcF Tryd.prog cfgN (ctOf [(9, txCon), (10, txCon), (11, padCon), (12, padCon), (13, okCon)]) (lpOf []) 3 [.int .i64 n, .int .i64 b, .int .i64 w] [] K = (
  need (andB (leI (-9223372036854775808) n) (leI n 9223372036854775807)) (
  need (andB (leI (-9223372036854775808) n) (leI n 9223372036854775807)) (
  br (eqS (textF n b) (textF n b)) (
    need (andB (leI (-9223372036854775808) n) (leI n 9223372036854775807)) (
    need (andB (leI (-9223372036854775808) n) (leI n 9223372036854775807)) (
    br (eqS (padF n b w) (padF n b w)) (
      K (V.bool true) []) (
      K (V.bool false) [])))) (
    K (V.bool false) [])))) := by kernel_rfl

theorem parses_vc (s : List UInt8) (b m : Int) (K : V → List Bk → Prop) : vcF Tryd.prog cfgN (ctOf [(14, parCon), (15, parCon), (13, okCon)]) (lpOf []) 4 [.str s, .int .i64 b, .int .i64 m] [] K = (
  br (ltI 2000 (lenS s)) (
    K (V.bool true) []) (
    need (andB (leI (lenS s) 4611686018427387904) (andB (leI (-9223372036854775808) m) (leI m 9223372036854775807))) (
    need (andB (leI (lenS s) 4611686018427387904) (andB (leI (-9223372036854775808) m) (leI m 9223372036854775807))) (
    br (eqI (numOf (parseF s b m)) (numOf (parseF s b m))) (
      br (eqI (errOf (parseF s b m)) (errOf (parseF s b m))) (
        K (V.bool true) []) (
        K (V.bool false) [])) (
      K (V.bool false) []))))) := by kernel_rfl

def inv_vc_1 (n b : Int) (K : V → List Bk → Prop) : Prop :=
  (
        need (andB (leI (-9223372036854775808) n) (leI n 9223372036854775807)) (
        br (ltI n 0) (
          need (andB (leI (lenS (textF n b)) 4611686018427387904) true) (
          br (eqI (numOf (parseF (textF n b) b 9223372036854775807)) 0) (
            br (eqI (errOf (parseF (textF n b) b 9223372036854775807)) 5) (
              K (V.bool true) []) (
              K (V.bool false) [])) (
            K (V.bool false) []))) (
          need (andB (leI (lenS (textF n b)) 4611686018427387904) (andB (leI (-9223372036854775808) n) (leI n 9223372036854775807))) (
          br (notB (eqI (numOf (parseF (textF n b) b n)) n)) (
            K (V.bool false) []) (
            br (notB (eqI (errOf (parseF (textF n b) b n)) 0)) (
              K (V.bool false) []) (
              br (eqI n 0) (
                K (V.bool true) []) (
                need (andB (leI (lenS (textF n b)) 4611686018427387904) (andB (leI (-9223372036854775808) (subI IntKind.i64 n 1)) (leI (subI IntKind.i64 n 1) 9223372036854775807))) (
                br (eqI (numOf (parseF (textF n b) b (subI IntKind.i64 n 1))) 0) (
                  br (eqI (errOf (parseF (textF n b) b (subI IntKind.i64 n 1))) 5) (
                    K (V.bool true) []) (
                    K (V.bool false) [])) (
                  K (V.bool false) [])))))))))
theorem inv_vc (n b : Int) (K : V → List Bk → Prop) : vcF Tryd.prog cfgN (ctOf [(9, txCon), (14, parCon), (13, okCon)]) (lpOf []) 5 [.int .i64 n, .int .i64 b] [] K = (
  br (notB (eqI b 8)) (
    br (notB (eqI b 10)) (
      br (notB (eqI b 16)) (
        need (andB (leI (-9223372036854775808) n) (leI n 9223372036854775807)) (
        br (eqS (textF n b) []) (
          K (V.bool true) []) (
          K (V.bool false) []))) (inv_vc_1 n b K)) (inv_vc_1 n b K)) (inv_vc_1 n b K)) := by kernel_rfl

theorem canon_vc (s : List UInt8) (b m : Int) (K : V → List Bk → Prop) : vcF Tryd.prog cfgN (ctOf [(9, txCon), (14, parCon), (13, okCon)]) (lpOf []) 6 [.str s, .int .i64 b, .int .i64 m] [] K = (
  br (ltI 2000 (lenS s)) (
    K (V.bool true) []) (
    need (andB (leI (lenS s) 4611686018427387904) (andB (leI (-9223372036854775808) m) (leI m 9223372036854775807))) (
    br (notB (eqI (errOf (parseF s b m)) 0)) (
      br (eqI (numOf (parseF s b m)) 0) (
        K (V.bool true) []) (
        K (V.bool false) [])) (
      br (leI 0 (numOf (parseF s b m))) (
        br (leI (numOf (parseF s b m)) m) (
          need (andB (leI (-9223372036854775808) (numOf (parseF s b m))) (leI (numOf (parseF s b m)) 9223372036854775807)) (
          br (eqS (textF (numOf (parseF s b m)) b) s) (
            K (V.bool true) []) (
            K (V.bool false) []))) (
          K (V.bool false) [])) (
        K (V.bool false) []))))) := by kernel_rfl

theorem adds_vc (a b m : Int) (K : V → List Bk → Prop) : vcF Tryd.prog cfgN (ctOf [(19, addCon), (20, addCon), (13, okCon)]) (lpOf []) 8 [.int .i64 a, .int .i64 b, .int .i64 m] [] K = (
  need (andB (andB (leI (-9223372036854775808) a) (leI a 9223372036854775807)) (andB (andB (leI (-9223372036854775808) b) (leI b 9223372036854775807)) (andB (leI (-9223372036854775808) m) (leI m 9223372036854775807)))) (
  need (andB (andB (leI (-9223372036854775808) a) (leI a 9223372036854775807)) (andB (andB (leI (-9223372036854775808) b) (leI b 9223372036854775807)) (andB (leI (-9223372036854775808) m) (leI m 9223372036854775807)))) (
  br (eqI (numOf (addF a b m)) (numOf (addF a b m))) (
    br (eqI (errOf (addF a b m)) (errOf (addF a b m))) (
      K (V.bool true) []) (
      K (V.bool false) [])) (
    K (V.bool false) [])))) := by kernel_rfl

structure lfC where
  xs : List (List V)
  cnt : Int
structure lfX where
  t : List UInt8
  i : Int
def lfSt (c : lfC) (x : lfX) : St := ⟨[(3, .lst c.xs), (4, .str x.t), (18, .int .i64 c.cnt), (19, .int .i64 x.i)], []⟩
def lfUn (s : St) : Option (lfC × lfX) :=
  match s with
  | ⟨[(q0, .lst xs), (q1, .str t), (q2, .int .i64 cnt), (q3, .int .i64 i)], []⟩ => bif Nat.beq q0 3 && Nat.beq q1 4 && Nat.beq q2 18 && Nat.beq q3 19 then some (⟨xs, cnt⟩, ⟨t, i⟩) else none
  | _ => none
def lfL (inv : lfC → lfX → lfX → Nat → Prop) : LoopS where
  C := lfC
  X := lfX
  st := lfSt
  un := lfUn
  ok := by
    intro s c x h
    unfold lfUn at h
    split at h
    · simp only [Bool.cond_eq_ite] at h
      split at h
      · rename_i hg
        simp only [Bool.and_eq_true, Nat.beq_eq] at hg
        obtain ⟨⟨⟨rfl, rfl⟩, rfl⟩, rfl⟩ := hg
        cases h
        rfl
      · cases h
    · cases h
  inv := inv

def sameL (a b : List (List UInt8)) : Bool := decide (a = b)

def fldCon : Con := fun vs bs K => match vs, bs with
  | [.str s], [] => need (leI (lenS s) 1099511627776) (K (.lst (rowsS (fieldsF s))) [])
  | _, _ => False

def smCon : Con := fun vs bs K => match vs, bs with
  | [.lst a, .lst b], [] => ∃ x y : List (List UInt8), a = rowsS x ∧ b = rowsS y ∧ x.length < 4611686018427387904 ∧ K (.bool (sameL x y)) []
  | _, _ => False

theorem fields_vc (s : List UInt8) (I : lfC → lfX → lfX → Nat → Prop) (K : V → List Bk → Prop) : vcF Tryd.prog cfgN (ctOf [(16, fldCon), (18, fldCon), (17, smCon), (13, okCon)]) (lpOf [(8, lfL I)]) 7 [.str s] [] K = (
  br (ltI 5000 (lenS s)) (
    K (V.bool true) []) (
    need (leI (lenS s) 1099511627776) (
    need (leI (lenS s) 1099511627776) (
    ∃ x3 : List (List UInt8), ∃ y4 : List (List UInt8), ((rowsS (fieldsF s) : List (List V)) = rowsS x3) ∧ (
    ((rowsS (fieldsF s) : List (List V)) = rowsS y4) ∧ (
    (x3.length < 4611686018427387904) ∧ (
    br (notB (sameL x3 y4)) (
      K (V.bool false) []) (
      (∃ m5 : Nat, (m5 < 18446744073709551616) ∧ (
      I (lfC.mk (rowsS (fieldsF s)) (lenL (rowsS (fieldsF s)))) (lfX.mk [] 0) (lfX.mk [] 0) m5)) ∧ (
      ∀ x5 : (lfL I).X, ∀ m6 : Nat, (I (lfC.mk (rowsS (fieldsF s)) (lenL (rowsS (fieldsF s)))) (lfX.mk [] 0) x5 m6) → (
      br (ltI x5.2 (lenL (rowsS (fieldsF s)))) (
        need (andB (leI 0 x5.2) (ltI x5.2 (lenL (rowsS (fieldsF s))))) (
        need (okRow (rowsS (fieldsF s)) x5.2.toNat 1) (
        ∃ s7 : List UInt8, ((sub (rowAt (rowsS (fieldsF s)) x5.2) 0 1 : Option (List V)) = some [V.str s7]) ∧ (
        need (catOk x5.1 s7) (
        need (catOk (catS x5.1 s7) [32]) (
        ((lfC.mk (rowsS (fieldsF s)) (lenL (rowsS (fieldsF s))) : (lfL I).C) = lfC.mk (rowsS (fieldsF s)) (lenL (rowsS (fieldsF s)))) ∧ (
        ∃ m'8 : Nat, (m'8 < m6) ∧ (
        I (lfC.mk (rowsS (fieldsF s)) (lenL (rowsS (fieldsF s)))) (lfX.mk [] 0) (lfX.mk (catS (catS x5.1 s7) [32]) (addI IntKind.i64 x5.2 1)) m'8)))))))) (
        need (leI (lenS x5.1) 1099511627776) (
        ∃ x7 : List (List UInt8), ∃ y8 : List (List UInt8), ((rowsS (fieldsF x5.1) : List (List V)) = rowsS x7) ∧ (
        ((rowsS (fieldsF s) : List (List V)) = rowsS y8) ∧ (
        (x7.length < 4611686018427387904) ∧ (
        br (sameL x7 y8) (
          K (V.bool true) []) (
          K (V.bool false) [])))))))))))))))) := by kernel_rfl

theorem ok_con {n : Nat} (hn : 12 ≤ n) : ConOk (evalF Tryd.prog cfgN n) 13 okCon := by
  intro vs bs K h
  unfold okCon at h
  split at h
  · exact ⟨_, _, awake_ev hn, h⟩
  · exact h.elim
theorem pad_con {n : Nat} (hn : 3 ≤ n) : ConOk (evalF Tryd.prog cfgN n) 11 padCon := by
  intro vs bs K h
  unfold padCon at h
  split at h
  · simp only [br_iff, need_iff, andB_t, andB_f, orB_t, orB_f, notB_t, notB_f, leI_t, leI_f, ltI_t, ltI_f, eqI_t, eqI_f, leN_t, leN_f, eqN_t, eqN_f, eqS_t, eqS_f, eqB_t, eqB_f, catOk_t, leC_t] at h
    obtain ⟨r, out, e, rfl, rfl⟩ := pad_run hn h.1.1 h.1.2
    exact ⟨_, _, e, h.2⟩
  · exact h.elim
theorem rpad_con {n : Nat} (hn : 3 ≤ n) : ConOk (evalF Tryd.prog cfgN n) 12 padCon := by
  intro vs bs K h
  unfold padCon at h
  split at h
  · simp only [br_iff, need_iff, andB_t, andB_f, orB_t, orB_f, notB_t, notB_f, leI_t, leI_f, ltI_t, ltI_f, eqI_t, eqI_f, leN_t, leN_f, eqN_t, eqN_f, eqS_t, eqS_f, eqB_t, eqB_f, catOk_t, leC_t] at h
    obtain ⟨r, out, e, rfl, rfl⟩ := rpad_run hn h.1.1 h.1.2
    exact ⟨_, _, e, h.2⟩
  · exact h.elim
theorem parseF_tup (s : List UInt8) (b m : Int) : parseF s b m = .tup [.int .i64 (numOf (parseF s b m)), .int .i64 (errOf (parseF s b m))] := by
  unfold parseF
  split
  · rfl
  · split
    · rfl
    · split <;> rfl
theorem addF_tup (a b m : Int) : addF a b m = .tup [.int .i64 (numOf (addF a b m)), .int .i64 (errOf (addF a b m))] := by
  unfold addF
  split
  · rfl
  · split <;> rfl
theorem pa_con {n : Nat} (hn : 2 ≤ n) : ConOk (evalF Tryd.prog cfgN n) 14 parCon := by
  intro vs bs K h
  unfold parCon at h
  split at h
  · rename_i s b m
    simp only [br_iff, need_iff, andB_t, andB_f, orB_t, orB_f, notB_t, notB_f, leI_t, leI_f, ltI_t, ltI_f, eqI_t, eqI_f, leN_t, leN_f, eqN_t, eqN_f, eqS_t, eqS_f, eqB_t, eqB_f, catOk_t, leC_t] at h
    obtain ⟨⟨h1, h2, h3⟩, hK⟩ := h
    obtain ⟨r, out, e, rfl, rfl⟩ := pa_run (s := s) (b := b) (most := m) hn (by unfold lenS at h1; omega) h2 h3
    exact ⟨_, _, e, by rw [parseF_tup]; exact hK⟩
  · exact h.elim
theorem rp_con {n : Nat} (hn : 2 ≤ n) : ConOk (evalF Tryd.prog cfgN n) 15 parCon := by
  intro vs bs K h
  unfold parCon at h
  split at h
  · rename_i s b m
    simp only [br_iff, need_iff, andB_t, andB_f, orB_t, orB_f, notB_t, notB_f, leI_t, leI_f, ltI_t, ltI_f, eqI_t, eqI_f, leN_t, leN_f, eqN_t, eqN_f, eqS_t, eqS_f, eqB_t, eqB_f, catOk_t, leC_t] at h
    obtain ⟨⟨h1, h2, h3⟩, hK⟩ := h
    obtain ⟨r, out, e, rfl, rfl⟩ := rp_run (s := s) (b := b) (most := m) hn (by unfold lenS at h1; omega) h2 h3
    exact ⟨_, _, e, by rw [parseF_tup]; exact hK⟩
  · exact h.elim
theorem add_con {n : Nat} (hn : 1 ≤ n) : ConOk (evalF Tryd.prog cfgN n) 19 addCon := by
  intro vs bs K h
  unfold addCon at h
  split at h
  · simp only [br_iff, need_iff, andB_t, andB_f, orB_t, orB_f, notB_t, notB_f, leI_t, leI_f, ltI_t, ltI_f, eqI_t, eqI_f, leN_t, leN_f, eqN_t, eqN_f, eqS_t, eqS_f, eqB_t, eqB_f, catOk_t, leC_t] at h
    obtain ⟨⟨h1, h2, h3⟩, hK⟩ := h
    obtain ⟨r, out, e, rfl, rfl⟩ := add_run hn h1 h2 h3
    exact ⟨_, _, e, by rw [addF_tup]; exact hK⟩
  · exact h.elim
theorem radd_con {n : Nat} (hn : 1 ≤ n) : ConOk (evalF Tryd.prog cfgN n) 20 addCon := by
  intro vs bs K h
  unfold addCon at h
  split at h
  · simp only [br_iff, need_iff, andB_t, andB_f, orB_t, orB_f, notB_t, notB_f, leI_t, leI_f, ltI_t, ltI_f, eqI_t, eqI_f, leN_t, leN_f, eqN_t, eqN_f, eqS_t, eqS_f, eqB_t, eqB_f, catOk_t, leC_t] at h
    obtain ⟨⟨h1, h2, h3⟩, hK⟩ := h
    obtain ⟨r, out, e, rfl, rfl⟩ := radd_run hn h1 h2 h3
    exact ⟨_, _, e, by rw [addF_tup]; exact hK⟩
  · exact h.elim
theorem fld_con {n : Nat} (hn : 1 ≤ n) : ConOk (evalF Tryd.prog cfgN n) 16 fldCon := by
  intro vs bs K h
  unfold fldCon at h
  split at h
  · rename_i s
    simp only [br_iff, need_iff, andB_t, andB_f, orB_t, orB_f, notB_t, notB_f, leI_t, leI_f, ltI_t, ltI_f, eqI_t, eqI_f, leN_t, leN_f, eqN_t, eqN_f, eqS_t, eqS_f, eqB_t, eqB_f, catOk_t, leC_t, lenS] at h
    obtain ⟨r, out, e, rfl, rfl⟩ := fields_run hn s (by have := h.1; omega)
    exact ⟨_, _, e, h.2⟩
  · exact h.elim
theorem rfld_con {n : Nat} (hn : 2 ≤ n) : ConOk (evalF Tryd.prog cfgN n) 18 fldCon := by
  intro vs bs K h
  unfold fldCon at h
  split at h
  · rename_i s
    simp only [br_iff, need_iff, andB_t, andB_f, orB_t, orB_f, notB_t, notB_f, leI_t, leI_f, ltI_t, ltI_f, eqI_t, eqI_f, leN_t, leN_f, eqN_t, eqN_f, eqS_t, eqS_f, eqB_t, eqB_f, catOk_t, leC_t, lenS] at h
    obtain ⟨r, out, e, rfl, rfl⟩ := rfields_run hn s (by have := h.1; omega)
    exact ⟨_, _, e, h.2⟩
  · exact h.elim
theorem sm_con {n : Nat} (hn : 1 ≤ n) : ConOk (evalF Tryd.prog cfgN n) 17 smCon := by
  intro vs bs K h
  unfold smCon at h
  split at h
  · obtain ⟨x, y, rfl, rfl, h1, h2⟩ := h
    obtain ⟨r, out, e, rfl, rfl⟩ := same_run hn x y h1
    exact ⟨_, _, e, h2⟩
  · exact h.elim
/-- A law's answer. -/
def Says (f : Nat) (vs : List V) : Prop := ∃ r out, evalF Tryd.prog cfgN 20 f vs [] = some (r, out) ∧ r = .bool true ∧ out = []
theorem texts_says {a b w : Int} (h1 : -9223372036854775808 ≤ a) (h2 : a ≤ 9223372036854775807) : Says 3 [.int .i64 a, .int .i64 b, .int .i64 w] := by
  refine run_of (lp := lpOf []) (ct := ctOf [(9, txCon), (10, txCon), (11, padCon), (12, padCon), (13, okCon)]) (by omega)
    (fun k hk => ctOf_ok (ctOf_cons (tx_con (by omega)) (ctOf_cons (rtx_con (by omega)) (ctOf_cons (pad_con (by omega)) (ctOf_cons (rpad_con (by omega)) (ctOf_cons (ok_con (by omega)) (ctOf_nil _))))))) ?_
  rw [texts_vc]
  simp only [br_iff, need_iff, andB_t, andB_f, orB_t, orB_f, notB_t, notB_f, leI_t, leI_f, ltI_t, ltI_f, eqI_t, eqI_f, leN_t, leN_f, eqN_t, eqN_f, eqS_t, eqS_f, eqB_t, eqB_f, catOk_t, leC_t]
  exact ⟨⟨h1, h2⟩, ⟨h1, h2⟩, fun _ => ⟨⟨h1, h2⟩, ⟨h1, h2⟩, fun _ => ⟨trivial, trivial⟩, fun h => absurd rfl h⟩, fun h => absurd rfl h⟩
theorem parses_says {s : List UInt8} {b m : Int} (h1 : -9223372036854775808 ≤ m) (h2 : m ≤ 9223372036854775807) : Says 4 [.str s, .int .i64 b, .int .i64 m] := by
  refine run_of (lp := lpOf []) (ct := ctOf [(14, parCon), (15, parCon), (13, okCon)]) (by omega)
    (fun k hk => ctOf_ok (ctOf_cons (pa_con (by omega)) (ctOf_cons (rp_con (by omega)) (ctOf_cons (ok_con (by omega)) (ctOf_nil _))))) ?_
  rw [parses_vc]
  simp only [br_iff, need_iff, andB_t, andB_f, orB_t, orB_f, notB_t, notB_f, leI_t, leI_f, ltI_t, ltI_f, eqI_t, eqI_f, leN_t, leN_f, eqN_t, eqN_f, eqS_t, eqS_f, eqB_t, eqB_f, catOk_t, leC_t]
  exact ⟨fun _ => ⟨trivial, trivial⟩, fun h => ⟨⟨by omega, h1, h2⟩, ⟨by omega, h1, h2⟩, fun _ => ⟨fun _ => ⟨trivial, trivial⟩, fun h => absurd rfl h⟩, fun h => absurd rfl h⟩⟩
theorem adds_says {a b m : Int} (ha : -9223372036854775808 ≤ a ∧ a ≤ 9223372036854775807) (hb : -9223372036854775808 ≤ b ∧ b ≤ 9223372036854775807) (hm : -9223372036854775808 ≤ m ∧ m ≤ 9223372036854775807) : Says 8 [.int .i64 a, .int .i64 b, .int .i64 m] := by
  refine run_of (lp := lpOf []) (ct := ctOf [(19, addCon), (20, addCon), (13, okCon)]) (by omega)
    (fun k hk => ctOf_ok (ctOf_cons (add_con (by omega)) (ctOf_cons (radd_con (by omega)) (ctOf_cons (ok_con (by omega)) (ctOf_nil _))))) ?_
  rw [adds_vc]
  simp only [br_iff, need_iff, andB_t, andB_f, orB_t, orB_f, notB_t, notB_f, leI_t, leI_f, ltI_t, ltI_f, eqI_t, eqI_f, leN_t, leN_f, eqN_t, eqN_f, eqS_t, eqS_f, eqB_t, eqB_f, catOk_t, leC_t]
  exact ⟨⟨ha, hb, hm⟩, ⟨ha, hb, hm⟩, fun _ => ⟨fun _ => ⟨trivial, trivial⟩, fun h => absurd rfl h⟩, fun h => absurd rfl h⟩
-- the plain laws
theorem dv_dgt : ∀ d : Fin 16, dv (dgt d.val) = (d.val : Int) := by decide +kernel
theorem dgt_dv : ∀ c : Fin 256, dv (UInt8.ofNat c.val) < 16 → dgt (dv (UInt8.ofNat c.val)).toNat = UInt8.ofNat c.val := by decide +kernel
theorem dgt_dv' {c : UInt8} (h : dv c < 16) : dgt (dv c).toNat = c := by
  have := dgt_dv ⟨c.toNat, c.toNat_lt⟩
  simp only [UInt8.ofNat_toNat] at this
  exact this h
/-- A number's digits are read as the number. -/
theorem parse_digs {B : Nat} (hB : 2 ≤ B) (hB2 : B ≤ 16) {most : Int} : ∀ (f u : Nat) (t : List UInt8), u < B ^ f → 1 ≤ f →
    parseGo (B : Int) most (digs B f u ++ t) 0 = if (u : Int) ≤ most then parseGo (B : Int) most t (u : Int) else none
  | 0, u, t, _, h => absurd h (by omega)
  | f + 1, u, t, hu, _ => by
    have one : ∀ (d n : Nat) (t : List UInt8), d < B → (n : Int) ≤ most ∨ n = 0 → parseGo (B : Int) most (dgt d :: t) (n : Int) = if ((n * B + d : Nat) : Int) ≤ most then parseGo (B : Int) most t ((n * B + d : Nat) : Int) else none := by
      intro d n t hd hn
      have e : dv (dgt d) = (d : Int) := dv_dgt ⟨d, by omega⟩
      by_cases h : ((n * B + d : Nat) : Int) ≤ most
      · rw [if_pos h]
        have hm : (n : Int) * B ≤ most - d := by simp at h; omega
        have hnb : (0 : Int) ≤ (n : Int) * B := Int.mul_nonneg (by omega) (by omega)
        have h3 : ¬ (most - dv (dgt d)).tdiv (B : Int) < (n : Int) := by
          rw [e, Int.tdiv_eq_ediv_of_nonneg (by omega)]
          have := (Int.le_ediv_iff_mul_le (a := (n : Int)) (b := most - d) (c := (B : Int)) (by omega)).2 hm
          omega
        obtain ⟨g, _⟩ := parse_step (b := (B : Int)) (most := most) (n := (n : Int)) (c := dgt d) (t := t) (by omega) (by omega) (by rw [e]; omega) (by rw [e]; omega) h3
        rw [g, e]
        simp
      · rw [if_neg h]
        refine parse_fail ?_
        rw [e]
        by_cases hdm : most < (d : Int)
        · exact .inr (.inl hdm)
        · right; right
          rw [Int.tdiv_eq_ediv_of_nonneg (by omega)]
          have : ¬ (n : Int) ≤ (most - d) / (B : Int) := fun hle => by
            have := (Int.le_ediv_iff_mul_le (a := (n : Int)) (b := most - d) (c := (B : Int)) (by omega)).1 hle
            simp at h; omega
          omega
    rcases Nat.lt_or_ge u B with hlt | hge
    · rw [digs_lt hlt]
      have := one u 0 t hlt (.inr rfl)
      simpa using this
    · rw [digs_ge hge]
      have h1 : u / B < B ^ f := by rw [Nat.div_lt_iff_lt_mul (by omega), ← Nat.pow_succ]; exact hu
      have hf : 1 ≤ f := by
        rcases Nat.eq_zero_or_pos f with rfl | h0
        · simp at hu; omega
        · exact h0
      have hmod : u % B < B := Nat.mod_lt _ (by omega)
      have hdm : u / B * B + u % B = u := by rw [Nat.mul_comm]; exact Nat.div_add_mod u B
      rw [List.append_assoc, parse_digs hB hB2 f (u / B) _ h1 hf]
      by_cases h : ((u / B : Nat) : Int) ≤ most
      · rw [if_pos h]
        have := one (u % B) (u / B) t hmod (.inl h)
        rw [hdm] at this
        exact this
      · rw [if_neg h, if_neg]
        have : u / B ≤ u := Nat.div_le_self u B
        omega
/-- What is read is the text of the number. -/
theorem parse_canon {B : Nat} (hB : 2 ≤ B) (hB2 : B ≤ 16) {most : Int} (hm : most ≤ 9223372036854775807) : ∀ (t : List UInt8) (k : Nat) (n : Int), 0 < k → (k : Int) ≤ most → parseGo (B : Int) most t (k : Int) = some n → ∃ u : Nat, n = (u : Int) ∧ (u : Int) ≤ most ∧ digs B 64 u = digs B 64 k ++ t
  | [], k, n, hk, hkm, h => by
    simp only [parseGo, Option.some.injEq] at h
    exact ⟨k, h.symm, hkm, by simp⟩
  | c :: t, k, n, hk, hkm, h => by
    by_cases hf : (B : Int) ≤ dv c ∨ most < dv c ∨ (most - dv c).tdiv (B : Int) < (k : Int)
    · rw [parse_fail hf] at h; cases h
    · have hd := dv_nonneg c
      obtain ⟨g1, g2, g3, g4, g5⟩ := parse_step (b := (B : Int)) (most := most) (n := (k : Int)) (c := c) (t := t) (by omega) (by omega) (by omega) (by omega) (by omega)
      rw [g1] at h
      have hdn : dv c = (((dv c).toNat : Nat) : Int) := by omega
      have e : (k : Int) * B + dv c = ((k * B + (dv c).toNat : Nat) : Int) := by rw [hdn]; simp
      rw [e] at h g3
      have hdB : (dv c).toNat < B := by omega
      obtain ⟨u, h1, h2, h3⟩ := parse_canon hB hB2 hm t (k * B + (dv c).toNat) n (by have := Nat.mul_pos hk (show 0 < B by omega); omega) g3 h
      refine ⟨u, h1, h2, ?_⟩
      have hdiv : (k * B + (dv c).toNat) / B = k := by rw [Nat.mul_comm, Nat.mul_add_div (by omega), Nat.div_eq_of_lt hdB]; omega
      have hmod : (k * B + (dv c).toNat) % B = (dv c).toNat := by rw [Nat.mul_comm, Nat.mul_add_mod, Nat.mod_eq_of_lt hdB]
      have hge : B ≤ k * B + (dv c).toNat := by
        have := Nat.mul_le_mul_right B hk
        omega
      have hp : (9223372036854775808 : Nat) ≤ 2 ^ 63 := by decide
      have hp2 : (2 : Nat) ^ 63 ≤ B ^ 63 := Nat.pow_le_pow_left hB 63
      have hp3 : (2 : Nat) ^ 64 ≤ B ^ 64 := Nat.pow_le_pow_left hB 64
      have hp4 : (2 : Nat) ^ 63 < 2 ^ 64 := by decide
      rw [h3, digs_ge hge, hdiv, hmod, dgt_dv' (by omega), digs_fuel hB 63 64 k (by omega) (by omega) (by omega) (by omega)]
      simp
theorem zero_head {B : Nat} (hB : 2 ≤ B) (hB2 : B ≤ 16) : ∀ (f u : Nat), u < B ^ f → 1 ≤ f → 0 < u → (digs B f u).head? ≠ some 48
  | 0, u, _, h, _ => absurd h (by omega)
  | f + 1, u, hu, _, h0 => by
    rcases Nat.lt_or_ge u B with hlt | hge
    · rw [digs_lt hlt]
      intro h
      simp only [List.head?_cons, Option.some.injEq] at h
      have h' := congrArg UInt8.toNat h
      unfold dgt at h'
      cases hb : Nat.blt u 10 with
      | true =>
        rw [Nat.blt_eq] at hb
        have hb' : Nat.blt u 10 = true := by rw [Nat.blt_eq]; exact hb
        simp [hb'] at h'
        omega
      | false =>
        simp only [hb, cond_false] at h'
        have hb' : ¬ u < 10 := fun h => by rw [← Nat.blt_eq, hb] at h; cases h
        simp at h'; omega
    · rw [digs_ge hge]
      have h1 : u / B < B ^ f := by rw [Nat.div_lt_iff_lt_mul (by omega), ← Nat.pow_succ]; exact hu
      have hf : 1 ≤ f := by
        rcases Nat.eq_zero_or_pos f with rfl | h0
        · simp at hu; omega
        · exact h0
      have ih := zero_head hB hB2 f (u / B) h1 hf (Nat.div_pos hge (by omega))
      rw [List.head?_append]
      have hne := digs_ne_nil (b := B) (u := u / B) hf
      cases hd : digs B f (u / B) with
      | nil => exact absurd hd hne
      | cons c t => rw [hd] at ih; simpa using ih
end Go.Proofs.YtfeoeiphlgakcaaDoor
namespace Go.Proofs.YtfeoeiphlgakcaaDoor
open Go.RowKit
set_option maxRecDepth 100000
set_option linter.unusedVariables false
set_option linter.unusedSimpArgs false
theorem parse_text {B : Nat} (hB : B = 8 ∨ B = 10 ∨ B = 16) {u : Nat} (hu : u ≤ 9223372036854775807) {most : Int} (hm : 0 ≤ most) :
    parseF (textF (u : Int) (B : Int)) (B : Int) most = if (u : Int) ≤ most then .tup [.int .i64 (u : Int), .int .i64 0] else .tup [.int .i64 0, .int .i64 5] := by
  have h2 : 2 ≤ B := by omega
  have hp : (9223372036854775808 : Nat) ≤ 2 ^ 64 := by decide
  have hp3 : (2 : Nat) ^ 64 ≤ B ^ 64 := Nat.pow_le_pow_left h2 64
  have ht : textF (u : Int) (B : Int) = digs B 64 u := by
    unfold textF
    rw [if_pos (by omega)]
    simp [textN]
  have hne : digs B 64 u ≠ [] := digs_ne_nil (by omega)
  have hg := parse_digs (B := B) h2 (by omega) (most := most) 64 u [] (by omega) (by omega)
  rw [List.append_nil] at hg
  rw [ht]
  unfold parseF
  rw [if_neg (by omega), if_neg, hg]
  · by_cases h : (u : Int) ≤ most
    · rw [if_pos h, if_pos h]; rfl
    · rw [if_neg h, if_neg h]
  · rintro (h | ⟨h1, h3⟩)
    · exact hne h
    · rcases Nat.eq_zero_or_pos u with rfl | h0
      · rw [digs_lt (by omega)] at h1
        simp at h1
      · exact zero_head h2 (by omega) 64 u (by omega) (by omega) h0 h3
theorem parse_neg {B : Nat} (hB : B = 8 ∨ B = 10 ∨ B = 16) {a : Int} (ha : a < 0) {most : Int} (hm : 0 ≤ most) : parseF (textF a (B : Int)) (B : Int) most = .tup [.int .i64 0, .int .i64 5] := by
  have ht : ∃ t, textF a (B : Int) = 45 :: t := by
    unfold textF
    rw [if_pos (by omega)]
    cases a with
    | ofNat u => exact absurd ha (by simp)
    | negSucc u => exact ⟨_, rfl⟩
  obtain ⟨t, ht⟩ := ht
  rw [ht]
  unfold parseF
  rw [if_neg (by omega), if_neg (by rintro (h | ⟨_, h⟩); cases h; simp at h)]
  have e : dv 45 = 16 := by decide +kernel
  rw [parse_fail (.inl (by rw [e]; omega))]
theorem inv_says {a b : Int} (h1 : -9223372036854775808 ≤ a) (h2 : a ≤ 9223372036854775807) : Says 5 [.int .i64 a, .int .i64 b] := by
  refine run_of (lp := lpOf []) (ct := ctOf [(9, txCon), (14, parCon), (13, okCon)]) (by omega)
    (fun k hk => ctOf_ok (ctOf_cons (tx_con (by omega)) (ctOf_cons (pa_con (by omega)) (ctOf_cons (ok_con (by omega)) (ctOf_nil _))))) ?_
  rw [inv_vc]
  have hl := textF_len a b
  have key : (b = 8 ∨ b = 10 ∨ b = 16) → inv_vc_1 a b (fun r out => r = .bool true ∧ out = []) := by
    intro hb
    obtain ⟨B, rfl⟩ : ∃ B : Nat, b = (B : Int) := ⟨b.toNat, by omega⟩
    have hB : B = 8 ∨ B = 10 ∨ B = 16 := by omega
    unfold inv_vc_1
    simp only [br_iff, need_iff, andB_t, andB_f, orB_t, orB_f, notB_t, notB_f, leI_t, leI_f, ltI_t, ltI_f, eqI_t, eqI_f, leN_t, leN_f, eqN_t, eqN_f, eqS_t, eqS_f, eqB_t, eqB_f, catOk_t, leC_t, lenS]
    refine ⟨⟨h1, h2⟩, fun hn => ⟨⟨by omega, trivial⟩, ?_⟩, fun hn => ⟨⟨by omega, h1, h2⟩, ?_⟩⟩
    · rw [parse_neg hB hn (by omega)]
      exact ⟨fun _ => ⟨fun _ => ⟨trivial, trivial⟩, fun h => absurd rfl h⟩, fun h => absurd rfl h⟩
    · obtain ⟨u, rfl⟩ : ∃ u : Nat, a = (u : Int) := ⟨a.toNat, by omega⟩
      rw [parse_text hB (by omega) hn, if_pos (by omega)]
      refine ⟨fun h => absurd rfl h, fun _ => ⟨fun h => absurd rfl h, fun _ => ⟨fun _ => ⟨trivial, trivial⟩, fun h0 => ?_⟩⟩⟩
      have hs : subI .i64 (u : Int) 1 = (u : Int) - 1 := subI_i64 (by omega) (by omega)
      rw [hs]
      rw [parse_text hB (by omega) (by omega), if_neg (by omega)]
      exact ⟨⟨by omega, by omega, by omega⟩, fun _ => ⟨fun _ => ⟨trivial, trivial⟩, fun h => absurd rfl h⟩, fun h => absurd rfl h⟩
  rw [br_iff]
  refine ⟨fun g1 => ?_, fun g1 => key (.inl (by simpa only [br_iff, need_iff, andB_t, andB_f, orB_t, orB_f, notB_t, notB_f, leI_t, leI_f, ltI_t, ltI_f, eqI_t, eqI_f, leN_t, leN_f, eqN_t, eqN_f, eqS_t, eqS_f, eqB_t, eqB_f, catOk_t, leC_t] using g1))⟩
  rw [br_iff]
  refine ⟨fun g2 => ?_, fun g2 => key (.inr (.inl (by simpa only [br_iff, need_iff, andB_t, andB_f, orB_t, orB_f, notB_t, notB_f, leI_t, leI_f, ltI_t, ltI_f, eqI_t, eqI_f, leN_t, leN_f, eqN_t, eqN_f, eqS_t, eqS_f, eqB_t, eqB_f, catOk_t, leC_t] using g2)))⟩
  rw [br_iff]
  refine ⟨fun g3 => ?_, fun g3 => key (.inr (.inr (by simpa only [br_iff, need_iff, andB_t, andB_f, orB_t, orB_f, notB_t, notB_f, leI_t, leI_f, ltI_t, ltI_f, eqI_t, eqI_f, leN_t, leN_f, eqN_t, eqN_f, eqS_t, eqS_f, eqB_t, eqB_f, catOk_t, leC_t] using g3)))⟩
  simp only [br_iff, need_iff, andB_t, andB_f, orB_t, orB_f, notB_t, notB_f, leI_t, leI_f, ltI_t, ltI_f, eqI_t, eqI_f, leN_t, leN_f, eqN_t, eqN_f, eqS_t, eqS_f, eqB_t, eqB_f, catOk_t, leC_t] at g1 g2 g3 ⊢
  refine ⟨⟨h1, h2⟩, fun _ => ⟨trivial, trivial⟩, fun h => absurd (textF_nil.2 (by omega)) h⟩
theorem canon_says {s : List UInt8} {b m : Int} (h1 : -9223372036854775808 ≤ m) (h2 : m ≤ 9223372036854775807) : Says 6 [.str s, .int .i64 b, .int .i64 m] := by
  refine run_of (lp := lpOf []) (ct := ctOf [(9, txCon), (14, parCon), (13, okCon)]) (by omega)
    (fun k hk => ctOf_ok (ctOf_cons (tx_con (by omega)) (ctOf_cons (pa_con (by omega)) (ctOf_cons (ok_con (by omega)) (ctOf_nil _))))) ?_
  rw [canon_vc]
  simp only [br_iff, need_iff, andB_t, andB_f, orB_t, orB_f, notB_t, notB_f, leI_t, leI_f, ltI_t, ltI_f, eqI_t, eqI_f, leN_t, leN_f, eqN_t, eqN_f, eqS_t, eqS_f, eqB_t, eqB_f, catOk_t, leC_t]
  refine ⟨fun _ => ⟨trivial, trivial⟩, fun hs => ⟨⟨by omega, h1, h2⟩, fun he => ?_, fun he => ?_⟩⟩
  · have : numOf (parseF s b m) = 0 := by
      unfold parseF at he ⊢
      split
      · rfl
      · rename_i g1
        rw [if_neg g1] at he
        split
        · rfl
        · rename_i g2
          rw [if_neg g2] at he
          split
          · rename_i n hn
            rw [hn] at he
            exact absurd rfl he
          · rfl
    rw [this]
    exact ⟨fun _ => ⟨trivial, trivial⟩, fun h => absurd rfl h⟩
  · obtain ⟨u, e1, e2, e3⟩ : ∃ u : Nat, numOf (parseF s b m) = (u : Int) ∧ (u : Int) ≤ m ∧ textF (u : Int) b = s := by
      unfold parseF at he ⊢
      split
      · rename_i g1
        rw [if_pos g1] at he
        exact absurd he (by decide)
      · rename_i g1
        rw [if_neg g1] at he
        split
        · rename_i g2
          rw [if_pos g2] at he
          exact absurd he (by decide)
        · rename_i g2
          rw [if_neg g2] at he
          split
          · rename_i n hn
            have hb : b = 8 ∨ b = 10 ∨ b = 16 := by
              rcases Classical.em (b = 8 ∨ b = 10 ∨ b = 16) with h | h
              · exact h
              · exact absurd (.inl h) g1
            have hm0 : 0 ≤ m := by
              rcases Int.lt_or_le m 0 with h | h
              · exact absurd (.inr h) g1
              · exact h
            obtain ⟨B, rfl⟩ : ∃ B : Nat, b = (B : Int) := ⟨b.toNat, by omega⟩
            have hB : B = 8 ∨ B = 10 ∨ B = 16 := by omega
            obtain ⟨c, t, rfl⟩ : ∃ c t, s = c :: t := by
              cases s with
              | nil => exact absurd (.inl rfl) g2
              | cons c t => exact ⟨c, t, rfl⟩
            have hd := dv_nonneg c
            by_cases hf : (B : Int) ≤ dv c ∨ m < dv c ∨ (m - dv c).tdiv (B : Int) < 0
            · rw [parse_fail hf] at hn; cases hn
            · obtain ⟨q1, q2, q3, q4, q5⟩ := parse_step (b := (B : Int)) (most := m) (n := 0) (c := c) (t := t) (by omega) (by omega) (by omega) (by omega) (by omega)
              rw [q1] at hn
              have e : (0 : Int) * B + dv c = (((dv c).toNat : Nat) : Int) := by omega
              rw [e] at hn q3
              have hlt : (dv c).toNat < B := by omega
              have hdg : dgt (dv c).toNat = c := dgt_dv' (by omega)
              have tx : ∀ u : Nat, textF (u : Int) (B : Int) = digs B 64 u := fun u => by
                unfold textF
                rw [if_pos (by omega)]
                simp [textN]
              rcases Nat.eq_zero_or_pos (dv c).toNat with h0 | h0
              · -- the digit 0: nothing follows
                have hc : c = 48 := by rw [← hdg, h0]; rfl
                have ht : t = [] := by
                  cases t with
                  | nil => rfl
                  | cons c' t' => exact absurd (.inr ⟨by simp, by simp [hc]⟩) g2
                subst ht
                rw [h0] at hn
                simp only [parseGo, Option.some.injEq] at hn
                refine ⟨0, hn.symm, hm0, ?_⟩
                rw [tx, digs_lt (by omega), hc]
                rfl
              · obtain ⟨u, r1, r2, r3⟩ := parse_canon (by omega) (by omega) h2 t (dv c).toNat n h0 q3 hn
                refine ⟨u, r1, r2, ?_⟩
                rw [tx, r3, digs_lt hlt, hdg]
                rfl
          · rename_i hn
            rw [hn] at he
            exact absurd he (by decide)
    rw [e1, e3]
    exact ⟨fun _ => ⟨fun _ => ⟨⟨by omega, by omega⟩, fun _ => ⟨trivial, trivial⟩, fun h => absurd rfl h⟩, fun h => by omega⟩, fun h => by omega⟩
/-- Texts, each with a blank behind it. -/
def joinS (l : List (List UInt8)) : List UInt8 := l.flatMap fun f => f ++ [32]
theorem joinS_app (a b : List (List UInt8)) : joinS (a ++ b) = joinS a ++ joinS b := List.flatMap_append
theorem join_len : ∀ (s cur : List UInt8), (joinS (fieldsGo s cur)).length ≤ s.length + cur.length + 1
  | [], cur => by
    simp only [fieldsGo]
    split
    · simp [joinS]
    · simp [joinS]
  | c :: t, cur => by
    simp only [fieldsGo]
    have h1 := join_len t []
    have h2 := join_len t (cur ++ [c])
    split
    · split
      · simp at h1 ⊢; omega
      · have : joinS (cur :: fieldsGo t []) = cur ++ [32] ++ joinS (fieldsGo t []) := rfl
        rw [this]
        simp at h1 ⊢; omega
    · simp at h2 ⊢; omega
def goodF (f : List UInt8) : Prop := f ≠ [] ∧ ∀ c ∈ f, sepB c.toNat = false
theorem fields_good : ∀ (s cur : List UInt8), (∀ c ∈ cur, sepB c.toNat = false) → ∀ f ∈ fieldsGo s cur, goodF f
  | [], cur, hc, f, hf => by
    simp only [fieldsGo] at hf
    split at hf
    · cases hf
    · rename_i hne
      obtain rfl := List.mem_singleton.1 hf
      exact ⟨hne, hc⟩
  | c :: t, cur, hc, f, hf => by
    simp only [fieldsGo] at hf
    split at hf
    · split at hf
      · exact fields_good t [] (by simp) f hf
      · rename_i hne
        rcases List.mem_cons.1 hf with rfl | hf
        · exact ⟨hne, hc⟩
        · exact fields_good t [] (by simp) f hf
    · rename_i hs
      refine fields_good t (cur ++ [c]) (fun x hx => ?_) f hf
      rcases List.mem_append.1 hx with hx | hx
      · exact hc x hx
      · obtain rfl := List.mem_singleton.1 hx
        simpa using hs
theorem fields_run_ : ∀ (f : List UInt8) (cur rest : List UInt8), (∀ c ∈ f, sepB c.toNat = false) → fieldsGo (f ++ rest) cur = fieldsGo rest (cur ++ f)
  | [], cur, rest, h => by simp
  | c :: f, cur, rest, h => by
    have hc : sepB c.toNat = false := h c (List.mem_cons_self ..)
    simp only [List.cons_append, fieldsGo, hc, Bool.false_eq_true, if_false]
    rw [fields_run_ f (cur ++ [c]) rest fun x hx => h x (List.mem_cons_of_mem _ hx)]
    simp
theorem fields_join : ∀ (l : List (List UInt8)), (∀ f ∈ l, goodF f) → fieldsF (joinS l) = l
  | [], _ => rfl
  | f :: l, h => by
    have hf := h f (List.mem_cons_self ..)
    have e : joinS (f :: l) = f ++ (32 :: joinS l) := by simp [joinS]
    have h32 : sepB ((32 : UInt8).toNat : Int) = true := by decide
    unfold fieldsF
    rw [e, fields_run_ f [] _ hf.2]
    simp only [List.nil_append, fieldsGo, h32, if_true, hf.1, if_false]
    congr 1
    exact fields_join l fun g hg => h g (List.mem_cons_of_mem _ hg)
def lfI (l : List (List UInt8)) (x : lfX) (m : Nat) : Prop := ∃ k : Nat, x.i = (k : Int) ∧ k + m = l.length ∧ x.t = joinS (l.take k)
theorem fields_says {s : List UInt8} : Says 7 [.str s] := by
  refine run_of (lp := lpOf [(8, lfL fun _ _ x m => lfI (fieldsF s) x m)]) (ct := ctOf [(16, fldCon), (18, fldCon), (17, smCon), (13, okCon)]) (by omega)
    (fun k hk => ctOf_ok (ctOf_cons (fld_con (by omega)) (ctOf_cons (rfld_con (by omega)) (ctOf_cons (sm_con (by omega)) (ctOf_cons (ok_con (by omega)) (ctOf_nil _)))))) ?_
  rw [fields_vc]
  rw [br_iff]
  refine ⟨fun _ => ⟨rfl, rfl⟩, fun hs => ?_⟩
  simp only [br_iff, need_iff, andB_t, andB_f, orB_t, orB_f, notB_t, notB_f, leI_t, leI_f, ltI_t, ltI_f, eqI_t, eqI_f, leN_t, leN_f, eqN_t, eqN_f, eqS_t, eqS_f, eqB_t, eqB_f, catOk_t, leC_t, lenS] at hs
  have hjl := join_len s []
  have hlen : ∀ l : List (List UInt8), l.length ≤ (joinS l).length := by
    intro l
    induction l with
    | nil => simp
    | cons f l ih =>
      have : joinS (f :: l) = f ++ [32] ++ joinS l := rfl
      rw [this]; simp; omega
  have hfl := hlen (fieldsF s)
  have hfj : (joinS (fieldsF s)).length ≤ 5001 := by unfold fieldsF; simp at hjl; omega
  have hpre : ∀ k, (joinS ((fieldsF s).take k)).length ≤ (joinS (fieldsF s)).length := fun k => by
    have := joinS_app ((fieldsF s).take k) ((fieldsF s).drop k)
    rw [List.take_append_drop] at this
    rw [this]; simp
  refine need_iff.2 ⟨by simp only [br_iff, need_iff, andB_t, andB_f, orB_t, orB_f, notB_t, notB_f, leI_t, leI_f, ltI_t, ltI_f, eqI_t, eqI_f, leN_t, leN_f, eqN_t, eqN_f, eqS_t, eqS_f, eqB_t, eqB_f, catOk_t, leC_t, lenS]; omega, need_iff.2 ⟨by simp only [br_iff, need_iff, andB_t, andB_f, orB_t, orB_f, notB_t, notB_f, leI_t, leI_f, ltI_t, ltI_f, eqI_t, eqI_f, leN_t, leN_f, eqN_t, eqN_f, eqS_t, eqS_f, eqB_t, eqB_f, catOk_t, leC_t, lenS]; omega, fieldsF s, fieldsF s, rfl, rfl, by omega, ?_⟩⟩
  have hsame : ∀ x : List (List UInt8), sameL x x = true := fun x => by simp [sameL]
  simp only [hsame, br_iff, need_iff, andB_t, andB_f, orB_t, orB_f, notB_t, notB_f, leI_t, leI_f, ltI_t, ltI_f, eqI_t, eqI_f, leN_t, leN_f, eqN_t, eqN_f, eqS_t, eqS_f, eqB_t, eqB_f, catOk_t, leC_t]
  refine ⟨fun h => by simp at h, fun _ => ⟨⟨(fieldsF s).length, by omega, 0, rfl, by omega, rfl⟩, ?_⟩⟩
  rintro ⟨t, i⟩ m ⟨k, rfl, hk, rfl⟩
  have hll : lenL (rowsS (fieldsF s)) = ((fieldsF s).length : Int) := by simp [lenL, rowsS]
  have hk1 := hpre k
  simp only [hll, Int.toNat_natCast]
  refine ⟨fun hlt => ?_, fun hge => ?_⟩
  · have hlt : k < (fieldsF s).length := by omega
    have htake : joinS ((fieldsF s).take (k + 1)) = catS (catS (joinS ((fieldsF s).take k)) (fieldsF s)[k]) [32] := by
      rw [List.take_succ_eq_append_getElem hlt, joinS_app]
      simp [joinS, catS]
    have hk2 := hpre (k + 1)
    rw [htake] at hk2
    have hc2 : (catS (catS (joinS ((fieldsF s).take k)) (fieldsF s)[k]) [32]).length = (joinS ((fieldsF s).take k)).length + (fieldsF s)[k].length + 1 := by simp [catS]; omega
    refine ⟨⟨by omega, by omega⟩, rowsS_ok hlt, (fieldsF s)[k], rowsS_at hlt, by omega, by simp [catS]; omega, trivial, m - 1, by omega, k + 1, ?_, by omega, ?_⟩
    · simp only; rw [addI_i64 (by omega) (by omega)]; omega
    · rw [htake]
  · have hk3 : k = (fieldsF s).length := by omega
    subst hk3
    rw [List.take_length] at hk1 ⊢
    have hj := fields_join (fieldsF s) (fields_good s [] (by simp))
    refine ⟨by simp only [lenS]; omega, fieldsF s, fieldsF s, by rw [hj], rfl, by omega, ?_⟩
    simp only [hsame]
    exact ⟨fun _ => ⟨trivial, trivial⟩, fun h => by simp at h⟩
end Go.Proofs.YtfeoeiphlgakcaaDoor
