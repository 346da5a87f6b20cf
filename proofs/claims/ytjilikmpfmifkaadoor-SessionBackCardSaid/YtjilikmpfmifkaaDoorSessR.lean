/- Tables of fids: their rules. -/
import Derived.Test.YtjilikmpfmifkaaDoorSessAll
import Derived.Test.YtjilikmpfmifkaaDoorEvF
namespace Go.Proofs.YtjilikmpfmifkaaDoor
open Go.RowKit
set_option maxRecDepth 100000
set_option linter.unusedVariables false
set_option linter.unusedSimpArgs false
def fidB (a b : Int) (op : Bool) (m n : Int) : Bool := decide ((0 ≤ a ∧ a ≤ 4294967294) ∧ (1 ≤ b ∧ b ≤ 1099511627776) ∧ (0 ≤ m ∧ m ≤ 127) ∧ (0 ≤ n ∧ n ≤ 9007199254740991) ∧ (op = false → m = 0 ∧ n = 0))

def fidCon : Con := fun vs bs K => match vs, bs with
  | [.agg [.int .i64 a, .int .i64 b, .str _, .bool _, .bool op, .int .i64 m, .int .i64 n]], [] => K (.bool (fidB a b op m n)) []
  | _, _ => False

structure frC where
  xs : List (List V)
  ys : List (List V)
  cnt : Int
structure frX where
  i : Int
def frSt (c : frC) (x : frX) : St := ⟨[(0, .lst c.xs), (8, .lst c.ys), (9, .int .i64 c.cnt), (10, .int .i64 x.i)], []⟩
def frUn (s : St) : Option (frC × frX) :=
  match s with
  | ⟨[(q0, .lst xs), (q1, .lst ys), (q2, .int .i64 cnt), (q3, .int .i64 i)], []⟩ => bif Nat.beq q0 0 && Nat.beq q1 8 && Nat.beq q2 9 && Nat.beq q3 10 then some (⟨xs, ys, cnt⟩, ⟨i⟩) else none
  | _ => none
def frL (inv : frC → frX → frX → Nat → Prop) : LoopS where
  C := frC
  X := frX
  st := frSt
  un := frUn
  ok := by
    intro s c x h
    unfold frUn at h
    split at h
    · simp only [Bool.cond_eq_ite] at h
      split at h
      · rename_i hg
        simp only [Bool.and_eq_true, Nat.beq_eq] at hg
        obtain ⟨⟨⟨rfl, rfl⟩, rfl⟩, rfl⟩ := hg
        cases h
        rfl
      · cases h
    · cases h
  inv := inv

structure grC where
  xs : List (List V)
structure grX where
  i : Int
def grSt (c : grC) (x : grX) : St := ⟨[(0, .lst c.xs), (3, .int .i64 x.i)], []⟩
def grUn (s : St) : Option (grC × grX) :=
  match s with
  | ⟨[(q0, .lst xs), (q1, .int .i64 i)], []⟩ => bif Nat.beq q0 0 && Nat.beq q1 3 then some (⟨xs⟩, ⟨i⟩) else none
  | _ => none
def grL (inv : grC → grX → grX → Nat → Prop) : LoopS where
  C := grC
  X := grX
  st := grSt
  un := grUn
  ok := by
    intro s c x h
    unfold grUn at h
    split at h
    · simp only [Bool.cond_eq_ite] at h
      split at h
      · rename_i hg
        simp only [Bool.and_eq_true, Nat.beq_eq] at hg
        obtain ⟨rfl, rfl⟩ := hg
        cases h
        rfl
      · cases h
    · cases h
  inv := inv

theorem fv_vc (a b : Int) (u : List UInt8) (au op : Bool) (m n : Int) (K : V → List Bk → Prop) : vcF Tryd.prog cfgN (ctOf []) (lpOf []) 41 [.agg [.int .i64 a, .int .i64 b, .str u, .bool au, .bool op, .int .i64 m, .int .i64 n]] [] K = (
  br (ltI a 0) (
    K (V.bool false) []) (
    br (ltI 4294967294 a) (
      K (V.bool false) []) (
      br (ltI b 1) (
        K (V.bool false) []) (
        br (ltI 1099511627776 b) (
          K (V.bool false) []) (
          br (notB op) (
            br (eqI m 0) (
              K (V.bool (eqI n 0)) []) (
              K (V.bool false) [])) (
            br (leI 0 m) (
              br (leI m 127) (
                br (leI 0 n) (
                  K (V.bool (leI n 9007199254740991)) []) (
                  K (V.bool false) [])) (
                K (V.bool false) [])) (
              K (V.bool false) []))))))) := by kernel_rfl

theorem gv_vc (a b : Int) (u : List UInt8) (au op : Bool) (m n : Int) (K : V → List Bk → Prop) : vcF Tryd.prog cfgN (ctOf []) (lpOf []) 42 [.agg [.int .i64 a, .int .i64 b, .str u, .bool au, .bool op, .int .i64 m, .int .i64 n]] [] K = (
  br (ltI a 0) (
    K (V.bool false) []) (
    br (ltI 4294967294 a) (
      K (V.bool false) []) (
      br (ltI b 1) (
        K (V.bool false) []) (
        br (ltI 1099511627776 b) (
          K (V.bool false) []) (
          br (ltI m 0) (
            K (V.bool false) []) (
            br (ltI 127 m) (
              K (V.bool false) []) (
              br (ltI n 0) (
                K (V.bool false) []) (
                br (ltI 9007199254740991 n) (
                  K (V.bool false) []) (
                  br (op) (
                    K (V.bool true) []) (
                    br (eqI m 0) (
                      K (V.bool (eqI n 0)) []) (
                      K (V.bool false) []))))))))))) := by kernel_rfl

theorem fr_vc (xs : List (List V)) (I : frC → frX → frX → Nat → Prop) (K : V → List Bk → Prop) : vcF Tryd.prog cfgN (ctOf [(41, fidCon)]) (lpOf [(4, frL I)]) 28 [.lst xs] [] K = (
  br (ltI 256 (lenL xs)) (
    K (V.bool false) []) (
    (∃ m3 : Nat, (m3 < 18446744073709551616) ∧ (
    I (frC.mk xs xs (lenL xs)) (frX.mk 0) (frX.mk 0) m3)) ∧ (
    ∀ x3 : (frL I).X, ∀ m4 : Nat, (I (frC.mk xs xs (lenL xs)) (frX.mk 0) x3 m4) → (
    br (ltI x3.1 (lenL xs)) (
      need (andB (leI 0 x3.1) (ltI x3.1 (lenL xs))) (
      need (okRow xs x3.1.toNat 7) (
      ∃ n5 : Int, ∃ n6 : Int, ∃ s7 : List UInt8, ∃ b8 : Bool, ∃ b9 : Bool, ∃ n10 : Int, ∃ n11 : Int, ((sub (rowAt xs x3.1) 0 7 : Option (List V)) = some [V.int IntKind.i64 n5, V.int IntKind.i64 n6, V.str s7, V.bool b8, V.bool b9, V.int IntKind.i64 n10, V.int IntKind.i64 n11]) ∧ (
      br (notB (fidB n5 n6 b9 n10 n11)) (
        K (V.bool false) []) (
        br (ltI 0 x3.1) (
          need (andB (leI 0 (subI IntKind.i64 x3.1 1)) (ltI (subI IntKind.i64 x3.1 1) (lenL xs))) (
          need (okRow xs (subI IntKind.i64 x3.1 1).toNat 7) (
          ∃ n12 : Int, ((sub (rowAt xs (subI IntKind.i64 x3.1 1)) 0 1 : Option (List V)) = some [V.int IntKind.i64 n12]) ∧ (
          br (leI n5 n12) (
            K (V.bool false) []) (
            ((frC.mk xs xs (lenL xs) : (frL I).C) = frC.mk xs xs (lenL xs)) ∧ (
            ∃ m'13 : Nat, (m'13 < m4) ∧ (
            I (frC.mk xs xs (lenL xs)) (frX.mk 0) (frX.mk (addI IntKind.i64 x3.1 1)) m'13))))))) (
          ((frC.mk xs xs (lenL xs) : (frL I).C) = frC.mk xs xs (lenL xs)) ∧ (
          ∃ m'12 : Nat, (m'12 < m4) ∧ (
          I (frC.mk xs xs (lenL xs)) (frX.mk 0) (frX.mk (addI IntKind.i64 x3.1 1)) m'12)))))))) (
      K (V.bool true) []))))) := by kernel_rfl

theorem gr_vc (xs : List (List V)) (I : grC → grX → grX → Nat → Prop) (K : V → List Bk → Prop) : vcF Tryd.prog cfgN (ctOf [(42, fidCon)]) (lpOf [(4, grL I)]) 31 [.lst xs] [] K = (
  br (ltI 256 (lenL xs)) (
    K (V.bool false) []) (
    (∃ m3 : Nat, (m3 < 18446744073709551616) ∧ (
    I (grC.mk xs) (grX.mk 0) (grX.mk 0) m3)) ∧ (
    ∀ x3 : (grL I).X, ∀ m4 : Nat, (I (grC.mk xs) (grX.mk 0) x3 m4) → (
    br (ltI x3.1 (lenL xs)) (
      need (andB (leI 0 x3.1) (ltI x3.1 (lenL xs))) (
      need (okRow xs x3.1.toNat 7) (
      ∃ n5 : Int, ∃ n6 : Int, ∃ s7 : List UInt8, ∃ b8 : Bool, ∃ b9 : Bool, ∃ n10 : Int, ∃ n11 : Int, ((sub (rowAt xs x3.1) 0 7 : Option (List V)) = some [V.int IntKind.i64 n5, V.int IntKind.i64 n6, V.str s7, V.bool b8, V.bool b9, V.int IntKind.i64 n10, V.int IntKind.i64 n11]) ∧ (
      br (notB (fidB n5 n6 b9 n10 n11)) (
        K (V.bool false) []) (
        br (ltI 0 x3.1) (
          need (andB (leI 0 (subI IntKind.i64 x3.1 1)) (ltI (subI IntKind.i64 x3.1 1) (lenL xs))) (
          need (okRow xs (subI IntKind.i64 x3.1 1).toNat 7) (
          ∃ n12 : Int, ((sub (rowAt xs (subI IntKind.i64 x3.1 1)) 0 1 : Option (List V)) = some [V.int IntKind.i64 n12]) ∧ (
          need (andB (leI 0 x3.1) (ltI x3.1 (lenL xs))) (
          need (okRow xs x3.1.toNat 7) (
          ∃ n13 : Int, ((sub (rowAt xs x3.1) 0 1 : Option (List V)) = some [V.int IntKind.i64 n13]) ∧ (
          br (leI n13 n12) (
            K (V.bool false) []) (
            ((grC.mk xs : (grL I).C) = grC.mk xs) ∧ (
            ∃ m'14 : Nat, (m'14 < m4) ∧ (
            I (grC.mk xs) (grX.mk 0) (grX.mk (addI IntKind.i64 x3.1 1)) m'14)))))))))) (
          ((grC.mk xs : (grL I).C) = grC.mk xs) ∧ (
          ∃ m'12 : Nat, (m'12 < m4) ∧ (
          I (grC.mk xs) (grX.mk 0) (grX.mk (addI IntKind.i64 x3.1 1)) m'12)))))))) (
      K (V.bool true) []))))) := by kernel_rfl

end Go.Proofs.YtjilikmpfmifkaaDoor
namespace Go.Proofs.YtjilikmpfmifkaaDoor
open Go.RowKit
set_option maxRecDepth 100000
set_option linter.unusedVariables false
set_option linter.unusedSimpArgs false
structure Fid where
  num : Int
  id : Int
  user : List UInt8
  auth : Bool
  op : Bool
  mode : Int
  next : Int
def Fid.v (f : Fid) : List V := [.int .i64 f.num, .int .i64 f.id, .str f.user, .bool f.auth, .bool f.op, .int .i64 f.mode, .int .i64 f.next]
def fidsV (l : List Fid) : List (List V) := l.map Fid.v
def Fid.ok (f : Fid) : Bool := fidB f.num f.id f.op f.mode f.next
def okAt (l : List Fid) (j : Nat) : Prop := ∃ f, l[j]? = some f ∧ f.ok = true ∧ ∀ k g, j = k + 1 → l[k]? = some g → g.num < f.num
noncomputable def fidsB (l : List Fid) : Bool := @decide (l.length ≤ 256 ∧ ∀ j, j < l.length → okAt l j) (Classical.propDecidable _)
theorem fidsB_iff {l : List Fid} : fidsB l = true ↔ (l.length ≤ 256 ∧ ∀ j, j < l.length → okAt l j) := by simp [fidsB]
theorem fidsB_not {l : List Fid} (h : ¬ (l.length ≤ 256 ∧ ∀ j, j < l.length → okAt l j)) : fidsB l = false := by rw [← Bool.not_eq_true, fidsB_iff]; exact h
theorem fidsV_len (l : List Fid) : (fidsV l).length = l.length := by simp [fidsV]
theorem fidsV_row {l : List Fid} {i : Nat} {f : Fid} (h : l[i]? = some f) : rowAt (fidsV l) (i : Int) = f.v := by simp [rowAt, fidsV, List.getD, h]
theorem fidsV_ok {l : List Fid} {i : Nat} (h : i < l.length) : okRow (fidsV l) i 7 = true := by simp [okRow, fidsV, List.getElem?_eq_getElem h, Fid.v]
theorem fid_con {n : Nat} (hn : 1 ≤ n) : ConOk (evalF Tryd.prog cfgN n) 41 fidCon := by
  intro vs bs K h
  unfold fidCon at h
  split at h
  · refine run_of (lp := lpOf []) hn (fun k _ => noCt_ok _) ?_
    rw [fv_vc]
    rename_i a b u au op m n
    have e : ∀ {b' : Bool}, b' = fidB a b op m n → K (.bool b') [] := fun q => by rw [q]; exact h
    cases op <;> simp only [br_iff] <;> (repeat (any_goals (refine And.intro (fun q => ?_) (fun q => ?_)))) <;> apply e <;> simp only [br_iff, need_iff, andB_t, andB_f, orB_t, orB_f, notB_t, notB_f, leI_t, leI_f, ltI_t, ltI_f, eqI_t, eqI_f, leN_t, leN_f, eqN_t, eqN_f, eqS_t, eqS_f, eqB_t, eqB_f, catOk_t, leC_t] at * <;> rw [Bool.eq_iff_iff] <;> simp [fidB, eqI, leI] at * <;> omega
  · exact h.elim
theorem gid_con {n : Nat} (hn : 1 ≤ n) : ConOk (evalF Tryd.prog cfgN n) 42 fidCon := by
  intro vs bs K h
  unfold fidCon at h
  split at h
  · refine run_of (lp := lpOf []) hn (fun k _ => noCt_ok _) ?_
    rw [gv_vc]
    rename_i a b u au op m n
    have e : ∀ {b' : Bool}, b' = fidB a b op m n → K (.bool b') [] := fun q => by rw [q]; exact h
    cases op <;> simp only [br_iff] <;> (repeat (any_goals (refine And.intro (fun q => ?_) (fun q => ?_)))) <;> apply e <;> simp only [br_iff, need_iff, andB_t, andB_f, orB_t, orB_f, notB_t, notB_f, leI_t, leI_f, ltI_t, ltI_f, eqI_t, eqI_f, leN_t, leN_f, eqN_t, eqN_f, eqS_t, eqS_f, eqB_t, eqB_f, catOk_t, leC_t] at * <;> rw [Bool.eq_iff_iff] <;> simp [fidB, eqI, leI] at * <;> omega
  · exact h.elim
def fidsCon : Con := fun vs bs K => match vs, bs with
  | [.lst xs], [] => ∃ l, xs = fidsV l ∧ K (.bool (fidsB l)) []
  | _, _ => False
def fI (l : List Fid) (i : Int) (m : Nat) : Prop := ∃ k : Nat, i = (k : Int) ∧ k + m = l.length ∧ ∀ j, j < k → okAt l j
theorem okAt_next {l : List Fid} {k : Nat} (hp : ∀ j, j < k → okAt l j) (h : okAt l k) : ∀ j, j < k + 1 → okAt l j := fun j hj => by
  rcases Nat.lt_or_ge j k with h1 | h1
  · exact hp j h1
  · obtain rfl : j = k := by omega
    exact h
theorem fids_con {n : Nat} (hn : 2 ≤ n) : ConOk (evalF Tryd.prog cfgN n) 28 fidsCon := by
  intro vs bs K h
  unfold fidsCon at h
  split at h
  · obtain ⟨l, rfl, hK⟩ := h
    refine run_of (lp := lpOf [(4, frL fun _ _ x m => fI l x.i m)]) (ct := ctOf [(41, fidCon)]) (by omega) (fun k hk => ctOf_ok (ctOf_cons (fid_con (by omega)) (ctOf_nil _))) ?_
    rw [fr_vc]
    have e : ∀ {b' : Bool}, b' = fidsB l → K (.bool b') [] := fun q => by rw [q]; exact hK
    have no : ∀ {j}, j < l.length → ¬ okAt l j → K (.bool false) [] := fun hj h => e (fidsB_not fun q => h (q.2 _ hj)).symm
    have hL : lenL (fidsV l) = (l.length : Int) := by simp [lenL, fidsV_len]
    rw [hL, br_iff]
    refine ⟨fun h => e (fidsB_not fun q => ?_).symm, fun h => ?_⟩
    · simp only [br_iff, need_iff, andB_t, andB_f, orB_t, orB_f, notB_t, notB_f, leI_t, leI_f, ltI_t, ltI_f, eqI_t, eqI_f, leN_t, leN_f, eqN_t, eqN_f, eqS_t, eqS_f, eqB_t, eqB_f, catOk_t, leC_t] at h; omega
    simp only [br_iff, need_iff, andB_t, andB_f, orB_t, orB_f, notB_t, notB_f, leI_t, leI_f, ltI_t, ltI_f, eqI_t, eqI_f, leN_t, leN_f, eqN_t, eqN_f, eqS_t, eqS_f, eqB_t, eqB_f, catOk_t, leC_t] at h
    refine ⟨⟨l.length, by omega, 0, rfl, by omega, fun j hj => by omega⟩, ?_⟩
    rintro ⟨i⟩ m ⟨k, rfl, hk, hp⟩
    rw [br_iff]
    refine ⟨fun hlt => ?_, fun hge => ?_⟩
    · have hlt : k < l.length := by simp only [br_iff, need_iff, andB_t, andB_f, orB_t, orB_f, notB_t, notB_f, leI_t, leI_f, ltI_t, ltI_f, eqI_t, eqI_f, leN_t, leN_f, eqN_t, eqN_f, eqS_t, eqS_f, eqB_t, eqB_f, catOk_t, leC_t] at hlt; omega
      have hf : l[k]? = some l[k] := List.getElem?_eq_getElem hlt
      generalize l[k] = f at hf
      have hin : andB (leI 0 (k : Int)) (ltI (k : Int) (l.length : Int)) = true := by simp only [br_iff, need_iff, andB_t, andB_f, orB_t, orB_f, notB_t, notB_f, leI_t, leI_f, ltI_t, ltI_f, eqI_t, eqI_f, leN_t, leN_f, eqN_t, eqN_f, eqS_t, eqS_f, eqB_t, eqB_f, catOk_t, leC_t]; omega
      rw [need_iff, need_iff]
      refine ⟨hin, by simpa using fidsV_ok hlt, f.num, f.id, f.user, f.auth, f.op, f.mode, f.next, by rw [fidsV_row hf]; rfl, ?_⟩
      have nxt : okAt l k → ∃ m', m' < m ∧ fI l (addI .i64 (k : Int) 1) m' := fun h => ⟨m - 1, by omega, k + 1, by rw [addI_i64 (by omega) (by omega)]; omega, by omega, okAt_next hp h⟩
      rw [br_iff]
      refine ⟨fun g => no hlt fun ⟨f', h1, h2, _⟩ => ?_, fun g => ?_⟩
      · obtain rfl := Option.some.inj (hf.symm.trans h1)
        simp only [br_iff, need_iff, andB_t, andB_f, orB_t, orB_f, notB_t, notB_f, leI_t, leI_f, ltI_t, ltI_f, eqI_t, eqI_f, leN_t, leN_f, eqN_t, eqN_f, eqS_t, eqS_f, eqB_t, eqB_f, catOk_t, leC_t] at g
        rw [Fid.ok, g] at h2; cases h2
      · have gok : f.ok = true := by simp only [br_iff, need_iff, andB_t, andB_f, orB_t, orB_f, notB_t, notB_f, leI_t, leI_f, ltI_t, ltI_f, eqI_t, eqI_f, leN_t, leN_f, eqN_t, eqN_f, eqS_t, eqS_f, eqB_t, eqB_f, catOk_t, leC_t] at g; exact g
        rw [br_iff]
        refine ⟨fun g1 => ?_, fun g1 => ⟨rfl, nxt ⟨f, hf, gok, fun j g hj hg => ?_⟩⟩⟩
        · have g1 : 0 < k := by simp only [br_iff, need_iff, andB_t, andB_f, orB_t, orB_f, notB_t, notB_f, leI_t, leI_f, ltI_t, ltI_f, eqI_t, eqI_f, leN_t, leN_f, eqN_t, eqN_f, eqS_t, eqS_f, eqB_t, eqB_f, catOk_t, leC_t] at g1; omega
          obtain ⟨j, rfl⟩ : ∃ j, k = j + 1 := ⟨k - 1, by omega⟩
          have e1 : subI .i64 ((j + 1 : Nat) : Int) 1 = (j : Int) := by rw [subI_i64 (by omega) (by omega)]; omega
          have hg : l[j]? = some l[j] := List.getElem?_eq_getElem (by omega)
          generalize l[j] = g at hg
          rw [e1, need_iff, need_iff]
          refine ⟨by simp only [br_iff, need_iff, andB_t, andB_f, orB_t, orB_f, notB_t, notB_f, leI_t, leI_f, ltI_t, ltI_f, eqI_t, eqI_f, leN_t, leN_f, eqN_t, eqN_f, eqS_t, eqS_f, eqB_t, eqB_f, catOk_t, leC_t]; omega, by simpa using fidsV_ok (l := l) (i := j) (by omega), g.num, by rw [fidsV_row hg]; rfl, ?_⟩
          rw [br_iff]
          refine ⟨fun q => no hlt fun ⟨f', h1, _, h3⟩ => ?_, fun q => ⟨rfl, nxt ⟨f, hf, gok, fun j' g' hj hg' => ?_⟩⟩⟩
          · obtain rfl := Option.some.inj (hf.symm.trans h1)
            have := h3 j g rfl hg
            simp only [br_iff, need_iff, andB_t, andB_f, orB_t, orB_f, notB_t, notB_f, leI_t, leI_f, ltI_t, ltI_f, eqI_t, eqI_f, leN_t, leN_f, eqN_t, eqN_f, eqS_t, eqS_f, eqB_t, eqB_f, catOk_t, leC_t] at q; omega
          · obtain rfl : j' = j := by omega
            obtain rfl := Option.some.inj (hg.symm.trans hg')
            simp only [br_iff, need_iff, andB_t, andB_f, orB_t, orB_f, notB_t, notB_f, leI_t, leI_f, ltI_t, ltI_f, eqI_t, eqI_f, leN_t, leN_f, eqN_t, eqN_f, eqS_t, eqS_f, eqB_t, eqB_f, catOk_t, leC_t] at q; omega
        · simp only [br_iff, need_iff, andB_t, andB_f, orB_t, orB_f, notB_t, notB_f, leI_t, leI_f, ltI_t, ltI_f, eqI_t, eqI_f, leN_t, leN_f, eqN_t, eqN_f, eqS_t, eqS_f, eqB_t, eqB_f, catOk_t, leC_t] at g1; omega
    · have : k = l.length := by simp only [br_iff, need_iff, andB_t, andB_f, orB_t, orB_f, notB_t, notB_f, leI_t, leI_f, ltI_t, ltI_f, eqI_t, eqI_f, leN_t, leN_f, eqN_t, eqN_f, eqS_t, eqS_f, eqB_t, eqB_f, catOk_t, leC_t] at hge; omega
      subst this
      exact e (fidsB_iff.2 ⟨by omega, hp⟩).symm
  · exact h.elim
theorem gids_con {n : Nat} (hn : 2 ≤ n) : ConOk (evalF Tryd.prog cfgN n) 31 fidsCon := by
  intro vs bs K h
  unfold fidsCon at h
  split at h
  · obtain ⟨l, rfl, hK⟩ := h
    refine run_of (lp := lpOf [(4, grL fun _ _ x m => fI l x.i m)]) (ct := ctOf [(42, fidCon)]) (by omega) (fun k hk => ctOf_ok (ctOf_cons (gid_con (by omega)) (ctOf_nil _))) ?_
    rw [gr_vc]
    have e : ∀ {b' : Bool}, b' = fidsB l → K (.bool b') [] := fun q => by rw [q]; exact hK
    have no : ∀ {j}, j < l.length → ¬ okAt l j → K (.bool false) [] := fun hj h => e (fidsB_not fun q => h (q.2 _ hj)).symm
    have hL : lenL (fidsV l) = (l.length : Int) := by simp [lenL, fidsV_len]
    rw [hL, br_iff]
    refine ⟨fun h => e (fidsB_not fun q => ?_).symm, fun h => ?_⟩
    · simp only [br_iff, need_iff, andB_t, andB_f, orB_t, orB_f, notB_t, notB_f, leI_t, leI_f, ltI_t, ltI_f, eqI_t, eqI_f, leN_t, leN_f, eqN_t, eqN_f, eqS_t, eqS_f, eqB_t, eqB_f, catOk_t, leC_t] at h; omega
    simp only [br_iff, need_iff, andB_t, andB_f, orB_t, orB_f, notB_t, notB_f, leI_t, leI_f, ltI_t, ltI_f, eqI_t, eqI_f, leN_t, leN_f, eqN_t, eqN_f, eqS_t, eqS_f, eqB_t, eqB_f, catOk_t, leC_t] at h
    refine ⟨⟨l.length, by omega, 0, rfl, by omega, fun j hj => by omega⟩, ?_⟩
    rintro ⟨i⟩ m ⟨k, rfl, hk, hp⟩
    rw [br_iff]
    refine ⟨fun hlt => ?_, fun hge => ?_⟩
    · have hlt : k < l.length := by simp only [br_iff, need_iff, andB_t, andB_f, orB_t, orB_f, notB_t, notB_f, leI_t, leI_f, ltI_t, ltI_f, eqI_t, eqI_f, leN_t, leN_f, eqN_t, eqN_f, eqS_t, eqS_f, eqB_t, eqB_f, catOk_t, leC_t] at hlt; omega
      have hf : l[k]? = some l[k] := List.getElem?_eq_getElem hlt
      generalize l[k] = f at hf
      have hin : andB (leI 0 (k : Int)) (ltI (k : Int) (l.length : Int)) = true := by simp only [br_iff, need_iff, andB_t, andB_f, orB_t, orB_f, notB_t, notB_f, leI_t, leI_f, ltI_t, ltI_f, eqI_t, eqI_f, leN_t, leN_f, eqN_t, eqN_f, eqS_t, eqS_f, eqB_t, eqB_f, catOk_t, leC_t]; omega
      rw [need_iff, need_iff]
      refine ⟨hin, by simpa using fidsV_ok hlt, f.num, f.id, f.user, f.auth, f.op, f.mode, f.next, by rw [fidsV_row hf]; rfl, ?_⟩
      have nxt : okAt l k → ∃ m', m' < m ∧ fI l (addI .i64 (k : Int) 1) m' := fun h => ⟨m - 1, by omega, k + 1, by rw [addI_i64 (by omega) (by omega)]; omega, by omega, okAt_next hp h⟩
      rw [br_iff]
      refine ⟨fun g => no hlt fun ⟨f', h1, h2, _⟩ => ?_, fun g => ?_⟩
      · obtain rfl := Option.some.inj (hf.symm.trans h1)
        simp only [br_iff, need_iff, andB_t, andB_f, orB_t, orB_f, notB_t, notB_f, leI_t, leI_f, ltI_t, ltI_f, eqI_t, eqI_f, leN_t, leN_f, eqN_t, eqN_f, eqS_t, eqS_f, eqB_t, eqB_f, catOk_t, leC_t] at g
        rw [Fid.ok, g] at h2; cases h2
      · have gok : f.ok = true := by simp only [br_iff, need_iff, andB_t, andB_f, orB_t, orB_f, notB_t, notB_f, leI_t, leI_f, ltI_t, ltI_f, eqI_t, eqI_f, leN_t, leN_f, eqN_t, eqN_f, eqS_t, eqS_f, eqB_t, eqB_f, catOk_t, leC_t] at g; exact g
        rw [br_iff]
        refine ⟨fun g1 => ?_, fun g1 => ⟨rfl, nxt ⟨f, hf, gok, fun j g hj hg => ?_⟩⟩⟩
        · have g1 : 0 < k := by simp only [br_iff, need_iff, andB_t, andB_f, orB_t, orB_f, notB_t, notB_f, leI_t, leI_f, ltI_t, ltI_f, eqI_t, eqI_f, leN_t, leN_f, eqN_t, eqN_f, eqS_t, eqS_f, eqB_t, eqB_f, catOk_t, leC_t] at g1; omega
          obtain ⟨j, rfl⟩ : ∃ j, k = j + 1 := ⟨k - 1, by omega⟩
          have e1 : subI .i64 ((j + 1 : Nat) : Int) 1 = (j : Int) := by rw [subI_i64 (by omega) (by omega)]; omega
          have hg : l[j]? = some l[j] := List.getElem?_eq_getElem (by omega)
          generalize l[j] = g at hg
          rw [e1, need_iff, need_iff]
          refine ⟨by simp only [br_iff, need_iff, andB_t, andB_f, orB_t, orB_f, notB_t, notB_f, leI_t, leI_f, ltI_t, ltI_f, eqI_t, eqI_f, leN_t, leN_f, eqN_t, eqN_f, eqS_t, eqS_f, eqB_t, eqB_f, catOk_t, leC_t]; omega, by simpa using fidsV_ok (l := l) (i := j) (by omega), g.num, by rw [fidsV_row hg]; rfl, ?_⟩
          rw [need_iff, need_iff]
          refine ⟨hin, by simpa using fidsV_ok hlt, f.num, by rw [fidsV_row hf]; rfl, ?_⟩
          rw [br_iff]
          refine ⟨fun q => no hlt fun ⟨f', h1, _, h3⟩ => ?_, fun q => ⟨rfl, nxt ⟨f, hf, gok, fun j' g' hj hg' => ?_⟩⟩⟩
          · obtain rfl := Option.some.inj (hf.symm.trans h1)
            have := h3 j g rfl hg
            simp only [br_iff, need_iff, andB_t, andB_f, orB_t, orB_f, notB_t, notB_f, leI_t, leI_f, ltI_t, ltI_f, eqI_t, eqI_f, leN_t, leN_f, eqN_t, eqN_f, eqS_t, eqS_f, eqB_t, eqB_f, catOk_t, leC_t] at q; omega
          · obtain rfl : j' = j := by omega
            obtain rfl := Option.some.inj (hg.symm.trans hg')
            simp only [br_iff, need_iff, andB_t, andB_f, orB_t, orB_f, notB_t, notB_f, leI_t, leI_f, ltI_t, ltI_f, eqI_t, eqI_f, leN_t, leN_f, eqN_t, eqN_f, eqS_t, eqS_f, eqB_t, eqB_f, catOk_t, leC_t] at q; omega
        · simp only [br_iff, need_iff, andB_t, andB_f, orB_t, orB_f, notB_t, notB_f, leI_t, leI_f, ltI_t, ltI_f, eqI_t, eqI_f, leN_t, leN_f, eqN_t, eqN_f, eqS_t, eqS_f, eqB_t, eqB_f, catOk_t, leC_t] at g1; omega
    · have : k = l.length := by simp only [br_iff, need_iff, andB_t, andB_f, orB_t, orB_f, notB_t, notB_f, leI_t, leI_f, ltI_t, ltI_f, eqI_t, eqI_f, leN_t, leN_f, eqN_t, eqN_f, eqS_t, eqS_f, eqB_t, eqB_f, catOk_t, leC_t] at hge; omega
      subst this
      exact e (fidsB_iff.2 ⟨by omega, hp⟩).symm
  · exact h.elim
end Go.Proofs.YtjilikmpfmifkaaDoor
namespace Go.Proofs.YtjilikmpfmifkaaDoor
open Go.RowKit
set_option linter.unusedVariables false
structure Sess where
  name : List UInt8
  fids : List Fid
  til : Int
def Sess.v (s : Sess) : List V := [.str s.name, .lst (fidsV s.fids), .int .i64 s.til]
def sessV (l : List Sess) : List (List V) := l.map Sess.v
/-- The first place of a name. -/
def idxN (s : List UInt8) : List Sess → Nat → Option Nat
  | [], _ => none
  | a :: l, k => if a.name = s then some k else idxN s l (k + 1)
def idxF (l : List Sess) (s : List UInt8) : Int := match idxN s l 0 with
  | some k => (k : Int)
  | none => -1
theorem sessV_len (l : List Sess) : (sessV l).length = l.length := by simp [sessV]
theorem sessV_row {l : List Sess} {i : Nat} {f : Sess} (h : l[i]? = some f) : rowAt (sessV l) (i : Int) = f.v := by simp [rowAt, sessV, List.getD, h]
theorem sessV_ok {l : List Sess} {i : Nat} (h : i < l.length) : okRow (sessV l) i 3 = true := by simp [okRow, sessV, List.getElem?_eq_getElem h, Sess.v]
end Go.Proofs.YtjilikmpfmifkaaDoor
namespace Go.Proofs.YtjilikmpfmifkaaDoor
open Go.RowKit
set_option maxRecDepth 100000
set_option linter.unusedVariables false
set_option linter.unusedSimpArgs false
def ixCon : Con := fun vs bs K => match vs, bs with
  | [.lst xs, .func 40 [] [.ptr 0 0 0]], [⟨true, true, true, [[.str s]]⟩] => ∃ l, xs = sessV l ∧ l.length ≤ 100000 ∧ K (.int .i64 (idxF l s)) [⟨true, true, true, [[.str s]]⟩]
  | _, _ => False

structure fewC where
  xs : List (List V)
  cnt : Int
structure fewX where
  i : Int
def fewSt (c : fewC) (x : fewX) : St := ⟨[(0, .lst c.xs), (8, .int .i64 c.cnt), (9, .int .i64 x.i)], []⟩
def fewUn (s : St) : Option (fewC × fewX) :=
  match s with
  | ⟨[(q0, .lst xs), (q1, .int .i64 cnt), (q2, .int .i64 i)], []⟩ => bif Nat.beq q0 0 && Nat.beq q1 8 && Nat.beq q2 9 then some (⟨xs, cnt⟩, ⟨i⟩) else none
  | _ => none
def fewL (inv : fewC → fewX → fewX → Nat → Prop) : LoopS where
  C := fewC
  X := fewX
  st := fewSt
  un := fewUn
  ok := by
    intro s c x h
    unfold fewUn at h
    split at h
    · simp only [Bool.cond_eq_ite] at h
      split at h
      · rename_i hg
        simp only [Bool.and_eq_true, Nat.beq_eq] at hg
        obtain ⟨⟨rfl, rfl⟩, rfl⟩ := hg
        cases h
        rfl
      · cases h
    · cases h
  inv := inv

structure atxC where
  xs : List (List V)
  s : List UInt8
  cnt : Int
structure atxX where
  i : Int
def atxSt (c : atxC) (x : atxX) : St := ⟨[(0, .lst c.xs), (1, .str c.s), (7, .int .i64 c.cnt), (8, .int .i64 x.i)], []⟩
def atxUn (s : St) : Option (atxC × atxX) :=
  match s with
  | ⟨[(q0, .lst xs), (q1, .str s), (q2, .int .i64 cnt), (q3, .int .i64 i)], []⟩ => bif Nat.beq q0 0 && Nat.beq q1 1 && Nat.beq q2 7 && Nat.beq q3 8 then some (⟨xs, s, cnt⟩, ⟨i⟩) else none
  | _ => none
def atxL (inv : atxC → atxX → atxX → Nat → Prop) : LoopS where
  C := atxC
  X := atxX
  st := atxSt
  un := atxUn
  ok := by
    intro s c x h
    unfold atxUn at h
    split at h
    · simp only [Bool.cond_eq_ite] at h
      split at h
      · rename_i hg
        simp only [Bool.and_eq_true, Nat.beq_eq] at hg
        obtain ⟨⟨⟨rfl, rfl⟩, rfl⟩, rfl⟩ := hg
        cases h
        rfl
      · cases h
    · cases h
  inv := inv

structure ifxC where
  xs : List (List V)
  s : List UInt8
  cnt : Int
structure ifxX where
  i : Int
def ifxSt (c : ifxC) (x : ifxX) : St := ⟨[(0, .lst c.xs), (1, .func 40 [] [.ptr 0 0 0]), (7, .int .i64 c.cnt), (8, .int .i64 x.i)], [(0, ⟨true, true, true, [[.str c.s]]⟩)]⟩
def ifxUn (s : St) : Option (ifxC × ifxX) :=
  match s with
  | ⟨[(q0, .lst xs), (q1, .func q2 [] [.ptr q3 q4 q5]), (q6, .int .i64 cnt), (q7, .int .i64 i)], [(q8, ⟨true, true, true, [[.str s]]⟩)]⟩ => bif Nat.beq q0 0 && Nat.beq q1 1 && Nat.beq q2 40 && Nat.beq q3 0 && Nat.beq q4 0 && Nat.beq q5 0 && Nat.beq q6 7 && Nat.beq q7 8 && Nat.beq q8 0 then some (⟨xs, s, cnt⟩, ⟨i⟩) else none
  | _ => none
def ifxL (inv : ifxC → ifxX → ifxX → Nat → Prop) : LoopS where
  C := ifxC
  X := ifxX
  st := ifxSt
  un := ifxUn
  ok := by
    intro s c x h
    unfold ifxUn at h
    split at h
    · simp only [Bool.cond_eq_ite] at h
      split at h
      · rename_i hg
        simp only [Bool.and_eq_true, Nat.beq_eq] at hg
        obtain ⟨⟨⟨⟨⟨⟨⟨⟨rfl, rfl⟩, rfl⟩, rfl⟩, rfl⟩, rfl⟩, rfl⟩, rfl⟩, rfl⟩ := hg
        cases h
        rfl
      · cases h
    · cases h
  inv := inv

theorem few_vc (xs : List (List V)) (I : fewC → fewX → fewX → Nat → Prop) (K : V → List Bk → Prop) : vcF Tryd.prog cfgN (ctOf []) (lpOf [(4, fewL I)]) 16 [.lst xs] [] K = (
  br (ltI 40 (lenL xs)) (
    K (V.bool false) []) (
    (∃ m3 : Nat, (m3 < 18446744073709551616) ∧ (
    I (fewC.mk xs (lenL xs)) (fewX.mk 0) (fewX.mk 0) m3)) ∧ (
    ∀ x3 : (fewL I).X, ∀ m4 : Nat, (I (fewC.mk xs (lenL xs)) (fewX.mk 0) x3 m4) → (
    br (ltI x3.1 (lenL xs)) (
      need (andB (leI 0 x3.1) (ltI x3.1 (lenL xs))) (
      need (okRow xs x3.1.toNat 7) (
      ∃ s5 : List UInt8, ((sub (rowAt xs x3.1) 2 1 : Option (List V)) = some [V.str s5]) ∧ (
      br (ltI 200 (lenS s5)) (
        K (V.bool false) []) (
        ((fewC.mk xs (lenL xs) : (fewL I).C) = fewC.mk xs (lenL xs)) ∧ (
        ∃ m'6 : Nat, (m'6 < m4) ∧ (
        I (fewC.mk xs (lenL xs)) (fewX.mk 0) (fewX.mk (addI IntKind.i64 x3.1 1)) m'6))))))) (
      K (V.bool true) []))))) := by kernel_rfl

theorem atx_vc (xs : List (List V)) (s : List UInt8) (I : atxC → atxX → atxX → Nat → Prop) (K : V → List Bk → Prop) : vcF Tryd.prog cfgN (ctOf []) (lpOf [(2, atxL I)]) 30 [.lst xs, .str s] [] K = (
  (∃ m4 : Nat, (m4 < 18446744073709551616) ∧ (
  I (atxC.mk xs s (lenL xs)) (atxX.mk 0) (atxX.mk 0) m4)) ∧ (
  ∀ x4 : (atxL I).X, ∀ m5 : Nat, (I (atxC.mk xs s (lenL xs)) (atxX.mk 0) x4 m5) → (
  br (ltI x4.1 (lenL xs)) (
    need (andB (leI 0 x4.1) (ltI x4.1 (lenL xs))) (
    need (okRow xs x4.1.toNat 3) (
    ∃ s6 : List UInt8, ((sub (rowAt xs x4.1) 0 1 : Option (List V)) = some [V.str s6]) ∧ (
    br (eqS s6 s) (
      K (V.int IntKind.i64 x4.1) []) (
      ((atxC.mk xs s (lenL xs) : (atxL I).C) = atxC.mk xs s (lenL xs)) ∧ (
      ∃ m'7 : Nat, (m'7 < m5) ∧ (
      I (atxC.mk xs s (lenL xs)) (atxX.mk 0) (atxX.mk (addI IntKind.i64 x4.1 1)) m'7))))))) (
    K (V.int IntKind.i64 (-1)) [])))) := by kernel_rfl

theorem ifx_vc (xs : List (List V)) (s : List UInt8) (I : ifxC → ifxX → ifxX → Nat → Prop) (K : V → List Bk → Prop) : vcF Tryd.prog cfgN (ctOf [(40, inlC Tryd.prog cfgN (ctOf []) 40)]) (lpOf [(2, ifxL I)]) 39 [.lst xs, .func 40 [] [.ptr 0 0 0]] [⟨true, true, true, [[.str s]]⟩] K = (
  (∃ m4 : Nat, (m4 < 18446744073709551616) ∧ (
  I (ifxC.mk xs s (lenL xs)) (ifxX.mk 0) (ifxX.mk 0) m4)) ∧ (
  ∀ x4 : (ifxL I).X, ∀ m5 : Nat, (I (ifxC.mk xs s (lenL xs)) (ifxX.mk 0) x4 m5) → (
  br (ltI x4.1 (lenL xs)) (
    need (andB (leI 0 x4.1) (ltI x4.1 (lenL xs))) (
    need (okRow xs x4.1.toNat 3) (
    ∃ s6 : List UInt8, ∃ xs7 : List (List V), ∃ n8 : Int, ((sub (rowAt xs x4.1) 0 3 : Option (List V)) = some [V.str s6, V.lst xs7, V.int IntKind.i64 n8]) ∧ (
    br (eqS s6 s) (
      K (V.int IntKind.i64 x4.1) [Bk.mk true true true [[V.str s]]]) (
      ((ifxC.mk xs s (lenL xs) : (ifxL I).C) = ifxC.mk xs s (lenL xs)) ∧ (
      ∃ m'9 : Nat, (m'9 < m5) ∧ (
      I (ifxC.mk xs s (lenL xs)) (ifxX.mk 0) (ifxX.mk (addI IntKind.i64 x4.1 1)) m'9))))))) (
    K (V.int IntKind.i64 (-1)) [Bk.mk true true true [[V.str s]]])))) := by kernel_rfl

theorem fin_vc (xs : List (List V)) (s : List UInt8) (K : V → List Bk → Prop) : vcF Tryd.prog cfgN (ctOf [(39, ixCon)]) (lpOf []) 27 [.lst xs, .str s] [] K = (
  ∃ l3 : List Sess, ((xs : List (List V)) = sessV l3) ∧ (
  (l3.length ≤ 100000) ∧ (
  K (V.int IntKind.i64 (idxF l3 s)) []))) := by kernel_rfl

end Go.Proofs.YtjilikmpfmifkaaDoor
namespace Go.Proofs.YtjilikmpfmifkaaDoor
open Go.RowKit
set_option maxRecDepth 100000
set_option linter.unusedVariables false
set_option linter.unusedSimpArgs false
theorem idxN_ge {s : List UInt8} : ∀ {l : List Sess} {k : Nat}, (∀ a ∈ l, a.name ≠ s) → idxN s l k = none
  | [], k, _ => rfl
  | a :: l, k, h => by
    rw [idxN, if_neg (h a (List.mem_cons_self ..))]
    exact idxN_ge fun b hb => h b (List.mem_cons_of_mem _ hb)
theorem idxN_at {s : List UInt8} : ∀ {l : List Sess} {i k : Nat} {f : Sess}, l[i]? = some f → f.name = s → (∀ (j : Nat) g, j < i → l[j]? = some g → g.name ≠ s) → idxN s l k = some (k + i)
  | a :: l, 0, k, f, h, hn, _ => by
    obtain rfl : a = f := by simpa using h
    rw [idxN, if_pos hn]; rfl
  | a :: l, i + 1, k, f, h, hn, hp => by
    rw [idxN, if_neg (hp 0 a (by omega) rfl), idxN_at (l := l) (i := i) (by simpa using h) hn fun j g hj hg => hp (j + 1) g (by omega) (by simpa using hg)]
    congr 1; omega
def atCon : Con := fun vs bs K => match vs, bs with
  | [.lst xs, .str s], [] => ∃ l, xs = sessV l ∧ l.length ≤ 100000 ∧ K (.int .i64 (idxF l s)) []
  | _, _ => False
def atI (l : List Sess) (s : List UInt8) (i : Int) (m : Nat) : Prop := ∃ k : Nat, i = (k : Int) ∧ k + m = l.length ∧ ∀ (j : Nat) g, j < k → l[j]? = some g → g.name ≠ s
theorem at_next {l : List Sess} {s : List UInt8} {k : Nat} {f : Sess} (hp : ∀ (j : Nat) g, j < k → l[j]? = some g → g.name ≠ s) (hf : l[k]? = some f) (h : f.name ≠ s) : ∀ (j : Nat) g, j < k + 1 → l[j]? = some g → g.name ≠ s := fun j g hj hg => by
  rcases Nat.lt_or_ge j k with h1 | h1
  · exact hp j g h1 hg
  · obtain rfl : j = k := by omega
    obtain rfl := Option.some.inj (hf.symm.trans hg)
    exact h
theorem at_con {n : Nat} (hn : 1 ≤ n) : ConOk (evalF Tryd.prog cfgN n) 30 atCon := by
  intro vs bs K h
  unfold atCon at h
  split at h
  · obtain ⟨l, rfl, hb, hK⟩ := h
    rename_i s
    refine run_of (lp := lpOf [(2, atxL fun _ _ x m => atI l s x.i m)]) hn (fun k _ => noCt_ok _) ?_
    rw [atx_vc]
    have hL : lenL (sessV l) = (l.length : Int) := by simp [lenL, sessV_len]
    rw [hL]
    refine ⟨⟨l.length, by omega, 0, rfl, by omega, fun j g hj => by omega⟩, ?_⟩
    rintro ⟨i⟩ m ⟨k, rfl, hk, hp⟩
    rw [br_iff]
    refine ⟨fun hlt => ?_, fun hge => ?_⟩
    · have hlt : k < l.length := by simp only [br_iff, need_iff, andB_t, andB_f, orB_t, orB_f, notB_t, notB_f, leI_t, leI_f, ltI_t, ltI_f, eqI_t, eqI_f, leN_t, leN_f, eqN_t, eqN_f, eqS_t, eqS_f, eqB_t, eqB_f, catOk_t, leC_t] at hlt; omega
      have hf : l[k]? = some l[k] := List.getElem?_eq_getElem hlt
      generalize l[k] = f at hf
      rw [need_iff, need_iff]
      refine ⟨by simp only [br_iff, need_iff, andB_t, andB_f, orB_t, orB_f, notB_t, notB_f, leI_t, leI_f, ltI_t, ltI_f, eqI_t, eqI_f, leN_t, leN_f, eqN_t, eqN_f, eqS_t, eqS_f, eqB_t, eqB_f, catOk_t, leC_t]; omega, by simpa using sessV_ok hlt, f.name, by rw [sessV_row hf]; rfl, ?_⟩
      have nxt : f.name ≠ s → ∃ m', m' < m ∧ atI l s (addI .i64 (k : Int) 1) m' := fun h => ⟨m - 1, by omega, k + 1, by rw [addI_i64 (by omega) (by omega)]; omega, by omega, at_next hp hf h⟩
      rw [br_iff]
      refine ⟨fun g => ?_, fun g => ⟨rfl, nxt (by simp only [br_iff, need_iff, andB_t, andB_f, orB_t, orB_f, notB_t, notB_f, leI_t, leI_f, ltI_t, ltI_f, eqI_t, eqI_f, leN_t, leN_f, eqN_t, eqN_f, eqS_t, eqS_f, eqB_t, eqB_f, catOk_t, leC_t] at g; exact g)⟩⟩
      simp only [br_iff, need_iff, andB_t, andB_f, orB_t, orB_f, notB_t, notB_f, leI_t, leI_f, ltI_t, ltI_f, eqI_t, eqI_f, leN_t, leN_f, eqN_t, eqN_f, eqS_t, eqS_f, eqB_t, eqB_f, catOk_t, leC_t] at g
      have : idxF l s = (k : Int) := by unfold idxF; rw [idxN_at hf g hp]; simp
      rw [this] at hK; exact hK
    · have : k = l.length := by simp only [br_iff, need_iff, andB_t, andB_f, orB_t, orB_f, notB_t, notB_f, leI_t, leI_f, ltI_t, ltI_f, eqI_t, eqI_f, leN_t, leN_f, eqN_t, eqN_f, eqS_t, eqS_f, eqB_t, eqB_f, catOk_t, leC_t] at hge; omega
      subst this
      have : idxF l s = -1 := by
        unfold idxF
        rw [idxN_ge fun a ha => ?_]
        obtain ⟨j, hj⟩ := List.mem_iff_getElem?.1 ha
        exact hp j a (List.getElem?_eq_some_iff.1 hj).1 hj
      rw [this] at hK; exact hK
  · exact h.elim
theorem ix_con {n : Nat} (hn : 2 ≤ n) : ConOk (evalF Tryd.prog cfgN n) 39 ixCon := by
  intro vs bs K h
  unfold ixCon at h
  split at h
  · obtain ⟨l, rfl, hb, hK⟩ := h
    rename_i s
    refine run_of (lp := lpOf [(2, ifxL fun _ _ x m => atI l s x.i m)]) (by omega) (ct := ctOf [(40, inlC Tryd.prog cfgN (ctOf []) 40)]) (fun k hk => ctOf_ok (ctOf_cons (inl_ok (by omega) (fun _ _ => noCt_ok _)) (ctOf_nil _))) ?_
    rw [ifx_vc]
    have hL : lenL (sessV l) = (l.length : Int) := by simp [lenL, sessV_len]
    rw [hL]
    refine ⟨⟨l.length, by omega, 0, rfl, by omega, fun j g hj => by omega⟩, ?_⟩
    rintro ⟨i⟩ m ⟨k, rfl, hk, hp⟩
    rw [br_iff]
    refine ⟨fun hlt => ?_, fun hge => ?_⟩
    · have hlt : k < l.length := by simp only [br_iff, need_iff, andB_t, andB_f, orB_t, orB_f, notB_t, notB_f, leI_t, leI_f, ltI_t, ltI_f, eqI_t, eqI_f, leN_t, leN_f, eqN_t, eqN_f, eqS_t, eqS_f, eqB_t, eqB_f, catOk_t, leC_t] at hlt; omega
      have hf : l[k]? = some l[k] := List.getElem?_eq_getElem hlt
      generalize l[k] = f at hf
      rw [need_iff, need_iff]
      refine ⟨by simp only [br_iff, need_iff, andB_t, andB_f, orB_t, orB_f, notB_t, notB_f, leI_t, leI_f, ltI_t, ltI_f, eqI_t, eqI_f, leN_t, leN_f, eqN_t, eqN_f, eqS_t, eqS_f, eqB_t, eqB_f, catOk_t, leC_t]; omega, by simpa using sessV_ok hlt, f.name, fidsV f.fids, f.til, by rw [sessV_row hf]; rfl, ?_⟩
      have nxt : f.name ≠ s → ∃ m', m' < m ∧ atI l s (addI .i64 (k : Int) 1) m' := fun h => ⟨m - 1, by omega, k + 1, by rw [addI_i64 (by omega) (by omega)]; omega, by omega, at_next hp hf h⟩
      rw [br_iff]
      refine ⟨fun g => ?_, fun g => ⟨rfl, nxt (by simp only [br_iff, need_iff, andB_t, andB_f, orB_t, orB_f, notB_t, notB_f, leI_t, leI_f, ltI_t, ltI_f, eqI_t, eqI_f, leN_t, leN_f, eqN_t, eqN_f, eqS_t, eqS_f, eqB_t, eqB_f, catOk_t, leC_t] at g; exact g)⟩⟩
      simp only [br_iff, need_iff, andB_t, andB_f, orB_t, orB_f, notB_t, notB_f, leI_t, leI_f, ltI_t, ltI_f, eqI_t, eqI_f, leN_t, leN_f, eqN_t, eqN_f, eqS_t, eqS_f, eqB_t, eqB_f, catOk_t, leC_t] at g
      have : idxF l s = (k : Int) := by unfold idxF; rw [idxN_at hf g hp]; simp
      rw [this] at hK; exact hK
    · have : k = l.length := by simp only [br_iff, need_iff, andB_t, andB_f, orB_t, orB_f, notB_t, notB_f, leI_t, leI_f, ltI_t, ltI_f, eqI_t, eqI_f, leN_t, leN_f, eqN_t, eqN_f, eqS_t, eqS_f, eqB_t, eqB_f, catOk_t, leC_t] at hge; omega
      subst this
      have : idxF l s = -1 := by
        unfold idxF
        rw [idxN_ge fun a ha => ?_]
        obtain ⟨j, hj⟩ := List.mem_iff_getElem?.1 ha
        exact hp j a (List.getElem?_eq_some_iff.1 hj).1 hj
      rw [this] at hK; exact hK
  · exact h.elim
theorem find_con {n : Nat} (hn : 3 ≤ n) : ConOk (evalF Tryd.prog cfgN n) 27 atCon := by
  intro vs bs K h
  unfold atCon at h
  split at h
  · obtain ⟨l, rfl, hb, hK⟩ := h
    refine run_of (lp := lpOf []) (ct := ctOf [(39, ixCon)]) (by omega) (fun k hk => ctOf_ok (ctOf_cons (ix_con (by omega)) (ctOf_nil _))) ?_
    rw [fin_vc]
    exact ⟨l, rfl, hb, hK⟩
  · exact h.elim
end Go.Proofs.YtjilikmpfmifkaaDoor
namespace Go.Proofs.YtjilikmpfmifkaaDoor
open Go.RowKit
set_option maxRecDepth 100000
set_option linter.unusedVariables false
set_option linter.unusedSimpArgs false
def fewCon : Con := fun vs bs K => match vs, bs with
  | [.lst xs], [] => ∃ l, xs = fidsV l ∧ ∀ b : Bool, (b = true → l.length ≤ 40) → K (.bool b) []
  | _, _ => False

structure smC where
  xs : List (List V)
  cnt : Int
structure smX where
  i : Int
def smSt (c : smC) (x : smX) : St := ⟨[(0, .lst c.xs), (8, .int .i64 c.cnt), (9, .int .i64 x.i)], []⟩
def smUn (s : St) : Option (smC × smX) :=
  match s with
  | ⟨[(q0, .lst xs), (q1, .int .i64 cnt), (q2, .int .i64 i)], []⟩ => bif Nat.beq q0 0 && Nat.beq q1 8 && Nat.beq q2 9 then some (⟨xs, cnt⟩, ⟨i⟩) else none
  | _ => none
def smL (inv : smC → smX → smX → Nat → Prop) : LoopS where
  C := smC
  X := smX
  st := smSt
  un := smUn
  ok := by
    intro s c x h
    unfold smUn at h
    split at h
    · simp only [Bool.cond_eq_ite] at h
      split at h
      · rename_i hg
        simp only [Bool.and_eq_true, Nat.beq_eq] at hg
        obtain ⟨⟨rfl, rfl⟩, rfl⟩ := hg
        cases h
        rfl
      · cases h
    · cases h
  inv := inv

structure srC where
  xs : List (List V)
  ys : List (List V)
  cnt : Int
structure srX where
  i : Int
def srSt (c : srC) (x : srX) : St := ⟨[(0, .lst c.xs), (8, .lst c.ys), (9, .int .i64 c.cnt), (10, .int .i64 x.i)], []⟩
def srUn (s : St) : Option (srC × srX) :=
  match s with
  | ⟨[(q0, .lst xs), (q1, .lst ys), (q2, .int .i64 cnt), (q3, .int .i64 i)], []⟩ => bif Nat.beq q0 0 && Nat.beq q1 8 && Nat.beq q2 9 && Nat.beq q3 10 then some (⟨xs, ys, cnt⟩, ⟨i⟩) else none
  | _ => none
def srL (inv : srC → srX → srX → Nat → Prop) : LoopS where
  C := srC
  X := srX
  st := srSt
  un := srUn
  ok := by
    intro s c x h
    unfold srUn at h
    split at h
    · simp only [Bool.cond_eq_ite] at h
      split at h
      · rename_i hg
        simp only [Bool.and_eq_true, Nat.beq_eq] at hg
        obtain ⟨⟨⟨rfl, rfl⟩, rfl⟩, rfl⟩ := hg
        cases h
        rfl
      · cases h
    · cases h
  inv := inv

structure rrC where
  xs : List (List V)
  cnt : Int
structure rrX where
  i : Int
def rrSt (c : rrC) (x : rrX) : St := ⟨[(0, .lst c.xs), (8, .int .i64 c.cnt), (9, .int .i64 x.i)], []⟩
def rrUn (s : St) : Option (rrC × rrX) :=
  match s with
  | ⟨[(q0, .lst xs), (q1, .int .i64 cnt), (q2, .int .i64 i)], []⟩ => bif Nat.beq q0 0 && Nat.beq q1 8 && Nat.beq q2 9 then some (⟨xs, cnt⟩, ⟨i⟩) else none
  | _ => none
def rrL (inv : rrC → rrX → rrX → Nat → Prop) : LoopS where
  C := rrC
  X := rrX
  st := rrSt
  un := rrUn
  ok := by
    intro s c x h
    unfold rrUn at h
    split at h
    · simp only [Bool.cond_eq_ite] at h
      split at h
      · rename_i hg
        simp only [Bool.and_eq_true, Nat.beq_eq] at hg
        obtain ⟨⟨rfl, rfl⟩, rfl⟩ := hg
        cases h
        rfl
      · cases h
    · cases h
  inv := inv

theorem sm_vc (xs : List (List V)) (I : smC → smX → smX → Nat → Prop) (K : V → List Bk → Prop) : vcF Tryd.prog cfgN (ctOf [(16, fewCon)]) (lpOf [(4, smL I)]) 9 [.lst xs] [] K = (
  br (ltI 20 (lenL xs)) (
    K (V.bool false) []) (
    (∃ m3 : Nat, (m3 < 18446744073709551616) ∧ (
    I (smC.mk xs (lenL xs)) (smX.mk 0) (smX.mk 0) m3)) ∧ (
    ∀ x3 : (smL I).X, ∀ m4 : Nat, (I (smC.mk xs (lenL xs)) (smX.mk 0) x3 m4) → (
    br (ltI x3.1 (lenL xs)) (
      need (andB (leI 0 x3.1) (ltI x3.1 (lenL xs))) (
      need (okRow xs x3.1.toNat 3) (
      ∃ s5 : List UInt8, ((sub (rowAt xs x3.1) 0 1 : Option (List V)) = some [V.str s5]) ∧ (
      br (ltI 200 (lenS s5)) (
        K (V.bool false) []) (
        need (andB (leI 0 x3.1) (ltI x3.1 (lenL xs))) (
        need (okRow xs x3.1.toNat 3) (
        ∃ xs6 : List (List V), ((sub (rowAt xs x3.1) 1 1 : Option (List V)) = some [V.lst xs6]) ∧ (
        ∃ l7 : List Fid, ((xs6 : List (List V)) = fidsV l7) ∧ (
        ∀ b8 : Bool, (((b8 : Bool) = true) → (
        l7.length ≤ 40)) → (
        br (notB b8) (
          K (V.bool false) []) (
          ((smC.mk xs (lenL xs) : (smL I).C) = smC.mk xs (lenL xs)) ∧ (
          ∃ m'9 : Nat, (m'9 < m4) ∧ (
          I (smC.mk xs (lenL xs)) (smX.mk 0) (smX.mk (addI IntKind.i64 x3.1 1)) m'9))))))))))))) (
      K (V.bool true) []))))) := by kernel_rfl

theorem sr_vc (xs : List (List V)) (I : srC → srX → srX → Nat → Prop) (K : V → List Bk → Prop) : vcF Tryd.prog cfgN (ctOf [(15, valCon), (27, atCon), (28, fidsCon)]) (lpOf [(4, srL I)]) 11 [.lst xs] [] K = (
  br (ltI 16 (lenL xs)) (
    K (V.bool false) []) (
    (∃ m3 : Nat, (m3 < 18446744073709551616) ∧ (
    I (srC.mk xs xs (lenL xs)) (srX.mk 0) (srX.mk 0) m3)) ∧ (
    ∀ x3 : (srL I).X, ∀ m4 : Nat, (I (srC.mk xs xs (lenL xs)) (srX.mk 0) x3 m4) → (
    br (ltI x3.1 (lenL xs)) (
      need (andB (leI 0 x3.1) (ltI x3.1 (lenL xs))) (
      need (okRow xs x3.1.toNat 3) (
      ∃ s5 : List UInt8, ∃ xs6 : List (List V), ∃ n7 : Int, ((sub (rowAt xs x3.1) 0 3 : Option (List V)) = some [V.str s5, V.lst xs6, V.int IntKind.i64 n7]) ∧ (
      need (leC (Int.ofNat s5.length) 4611686018427387904) (
      br (notB (validF s5)) (
        K (V.bool false) []) (
        ∃ l8 : List Sess, ((xs : List (List V)) = sessV l8) ∧ (
        (l8.length ≤ 100000) ∧ (
        br (ltI (idxF l8 s5) x3.1) (
          K (V.bool false) []) (
          ∃ l9 : List Fid, ((xs6 : List (List V)) = fidsV l9) ∧ (
          br (notB (fidsB l9)) (
            K (V.bool false) []) (
            br (ltI n7 0) (
              K (V.bool false) []) (
              br (ltI 1099511627840 n7) (
                K (V.bool false) []) (
                ((srC.mk xs xs (lenL xs) : (srL I).C) = srC.mk xs xs (lenL xs)) ∧ (
                ∃ m'10 : Nat, (m'10 < m4) ∧ (
                I (srC.mk xs xs (lenL xs)) (srX.mk 0) (srX.mk (addI IntKind.i64 x3.1 1)) m'10))))))))))))))) (
      K (V.bool true) []))))) := by kernel_rfl

theorem rr_vc (xs : List (List V)) (I : rrC → rrX → rrX → Nat → Prop) (K : V → List Bk → Prop) : vcF Tryd.prog cfgN (ctOf [(29, valCon), (30, atCon), (31, fidsCon), (32, inlC Tryd.prog cfgN (ctOf []) 32)]) (lpOf [(4, rrL I)]) 12 [.lst xs] [] K = (
  br (ltI 16 (lenL xs)) (
    K (V.bool false) []) (
    (∃ m3 : Nat, (m3 < 18446744073709551616) ∧ (
    I (rrC.mk xs (lenL xs)) (rrX.mk 0) (rrX.mk 0) m3)) ∧ (
    ∀ x3 : (rrL I).X, ∀ m4 : Nat, (I (rrC.mk xs (lenL xs)) (rrX.mk 0) x3 m4) → (
    br (ltI x3.1 (lenL xs)) (
      need (andB (leI 0 x3.1) (ltI x3.1 (lenL xs))) (
      need (okRow xs x3.1.toNat 3) (
      ∃ s5 : List UInt8, ((sub (rowAt xs x3.1) 0 1 : Option (List V)) = some [V.str s5]) ∧ (
      need (leC (Int.ofNat s5.length) 4611686018427387904) (
      br (notB (validF s5)) (
        K (V.bool false) []) (
        need (andB (leI 0 x3.1) (ltI x3.1 (lenL xs))) (
        need (okRow xs x3.1.toNat 3) (
        ∃ s6 : List UInt8, ((sub (rowAt xs x3.1) 0 1 : Option (List V)) = some [V.str s6]) ∧ (
        ∃ l7 : List Sess, ((xs : List (List V)) = sessV l7) ∧ (
        (l7.length ≤ 100000) ∧ (
        br (notB (eqI (idxF l7 s6) x3.1)) (
          K (V.bool false) []) (
          need (andB (leI 0 x3.1) (ltI x3.1 (lenL xs))) (
          need (okRow xs x3.1.toNat 3) (
          ∃ xs8 : List (List V), ((sub (rowAt xs x3.1) 1 1 : Option (List V)) = some [V.lst xs8]) ∧ (
          ∃ l9 : List Fid, ((xs8 : List (List V)) = fidsV l9) ∧ (
          br (notB (fidsB l9)) (
            K (V.bool false) []) (
            need (andB (leI 0 x3.1) (ltI x3.1 (lenL xs))) (
            need (okRow xs x3.1.toNat 3) (
            ∃ n10 : Int, ((sub (rowAt xs x3.1) 2 1 : Option (List V)) = some [V.int IntKind.i64 n10]) ∧ (
            br (leI 0 n10) (
              br (notB (leI n10 1099511627840)) (
                K (V.bool false) []) (
                ((rrC.mk xs (lenL xs) : (rrL I).C) = rrC.mk xs (lenL xs)) ∧ (
                ∃ m'11 : Nat, (m'11 < m4) ∧ (
                I (rrC.mk xs (lenL xs)) (rrX.mk 0) (rrX.mk (addI IntKind.i64 x3.1 1)) m'11)))) (
              K (V.bool false) []))))))))))))))))))))) (
      K (V.bool true) []))))) := by kernel_rfl

end Go.Proofs.YtjilikmpfmifkaaDoor
namespace Go.Proofs.YtjilikmpfmifkaaDoor
open Go.RowKit
set_option maxRecDepth 100000
set_option linter.unusedVariables false
set_option linter.unusedSimpArgs false
def fewI (l : List Fid) (i : Int) (m : Nat) : Prop := ∃ k : Nat, i = (k : Int) ∧ k + m = l.length
theorem few_con {n : Nat} (hn : 1 ≤ n) : ConOk (evalF Tryd.prog cfgN n) 16 fewCon := by
  intro vs bs K h
  unfold fewCon at h
  split at h
  · obtain ⟨l, rfl, hK⟩ := h
    refine run_of (lp := lpOf [(4, fewL fun _ _ x m => fewI l x.i m)]) hn (fun k _ => noCt_ok _) ?_
    rw [few_vc]
    have hL : lenL (fidsV l) = (l.length : Int) := by simp [lenL, fidsV_len]
    rw [hL, br_iff]
    refine ⟨fun _ => hK false (by simp), fun h => ?_⟩
    simp only [br_iff, need_iff, andB_t, andB_f, orB_t, orB_f, notB_t, notB_f, leI_t, leI_f, ltI_t, ltI_f, eqI_t, eqI_f, leN_t, leN_f, eqN_t, eqN_f, eqS_t, eqS_f, eqB_t, eqB_f, catOk_t, leC_t] at h
    refine ⟨⟨l.length, by omega, 0, rfl, by omega⟩, ?_⟩
    rintro ⟨i⟩ m ⟨k, rfl, hk⟩
    rw [br_iff]
    refine ⟨fun hlt => ?_, fun hge => hK true (fun _ => by omega)⟩
    have hlt : k < l.length := by simp only [br_iff, need_iff, andB_t, andB_f, orB_t, orB_f, notB_t, notB_f, leI_t, leI_f, ltI_t, ltI_f, eqI_t, eqI_f, leN_t, leN_f, eqN_t, eqN_f, eqS_t, eqS_f, eqB_t, eqB_f, catOk_t, leC_t] at hlt; omega
    have hf : l[k]? = some l[k] := List.getElem?_eq_getElem hlt
    generalize l[k] = f at hf
    rw [need_iff, need_iff]
    refine ⟨by simp only [br_iff, need_iff, andB_t, andB_f, orB_t, orB_f, notB_t, notB_f, leI_t, leI_f, ltI_t, ltI_f, eqI_t, eqI_f, leN_t, leN_f, eqN_t, eqN_f, eqS_t, eqS_f, eqB_t, eqB_f, catOk_t, leC_t]; omega, by simpa using fidsV_ok hlt, f.user, by rw [fidsV_row hf]; rfl, ?_⟩
    have nxt : ∃ m', m' < m ∧ fewI l (addI .i64 (k : Int) 1) m' := ⟨m - 1, by omega, k + 1, by rw [addI_i64 (by omega) (by omega)]; omega, by omega⟩
    rw [br_iff]
    exact ⟨fun _ => hK false (by simp), fun _ => ⟨rfl, nxt⟩⟩
  · exact h.elim
def smCon : Con := fun vs bs K => match vs, bs with
  | [.lst xs], [] => ∃ l, xs = sessV l ∧ ∀ b : Bool, (b = true → l.length ≤ 20 ∧ ∀ (j : Nat) s, l[j]? = some s → s.fids.length ≤ 40) → K (.bool b) []
  | _, _ => False
def smI (l : List Sess) (i : Int) (m : Nat) : Prop := ∃ k : Nat, i = (k : Int) ∧ k + m = l.length ∧ ∀ (j : Nat) s, j < k → l[j]? = some s → s.fids.length ≤ 40
theorem sm_con {n : Nat} (hn : 2 ≤ n) : ConOk (evalF Tryd.prog cfgN n) 9 smCon := by
  intro vs bs K h
  unfold smCon at h
  split at h
  · obtain ⟨l, rfl, hK⟩ := h
    refine run_of (lp := lpOf [(4, smL fun _ _ x m => smI l x.i m)]) (ct := ctOf [(16, fewCon)]) (by omega) (fun k hk => ctOf_ok (ctOf_cons (few_con (by omega)) (ctOf_nil _))) ?_
    rw [sm_vc]
    have hL : lenL (sessV l) = (l.length : Int) := by simp [lenL, sessV_len]
    rw [hL, br_iff]
    refine ⟨fun _ => hK false (by simp), fun h => ?_⟩
    simp only [br_iff, need_iff, andB_t, andB_f, orB_t, orB_f, notB_t, notB_f, leI_t, leI_f, ltI_t, ltI_f, eqI_t, eqI_f, leN_t, leN_f, eqN_t, eqN_f, eqS_t, eqS_f, eqB_t, eqB_f, catOk_t, leC_t] at h
    refine ⟨⟨l.length, by omega, 0, rfl, by omega, fun j s hj => by omega⟩, ?_⟩
    rintro ⟨i⟩ m ⟨k, rfl, hk, hp⟩
    rw [br_iff]
    refine ⟨fun hlt => ?_, fun hge => hK true (fun _ => ⟨by omega, fun j s hs => hp j s ?_ hs⟩)⟩
    · have hlt : k < l.length := by simp only [br_iff, need_iff, andB_t, andB_f, orB_t, orB_f, notB_t, notB_f, leI_t, leI_f, ltI_t, ltI_f, eqI_t, eqI_f, leN_t, leN_f, eqN_t, eqN_f, eqS_t, eqS_f, eqB_t, eqB_f, catOk_t, leC_t] at hlt; omega
      have hf : l[k]? = some l[k] := List.getElem?_eq_getElem hlt
      generalize l[k] = f at hf
      have hin : andB (leI 0 (k : Int)) (ltI (k : Int) (l.length : Int)) = true := by simp only [br_iff, need_iff, andB_t, andB_f, orB_t, orB_f, notB_t, notB_f, leI_t, leI_f, ltI_t, ltI_f, eqI_t, eqI_f, leN_t, leN_f, eqN_t, eqN_f, eqS_t, eqS_f, eqB_t, eqB_f, catOk_t, leC_t]; omega
      rw [need_iff, need_iff]
      refine ⟨hin, by simpa using sessV_ok hlt, f.name, by rw [sessV_row hf]; rfl, ?_⟩
      rw [br_iff]
      refine ⟨fun _ => hK false (by simp), fun _ => ?_⟩
      rw [need_iff, need_iff]
      refine ⟨hin, by simpa using sessV_ok hlt, fidsV f.fids, by rw [sessV_row hf]; rfl, f.fids, rfl, fun b hb => ?_⟩
      rw [br_iff]
      refine ⟨fun _ => hK false (by simp), fun g => ?_⟩
      have hb : f.fids.length ≤ 40 := hb (by simp only [br_iff, need_iff, andB_t, andB_f, orB_t, orB_f, notB_t, notB_f, leI_t, leI_f, ltI_t, ltI_f, eqI_t, eqI_f, leN_t, leN_f, eqN_t, eqN_f, eqS_t, eqS_f, eqB_t, eqB_f, catOk_t, leC_t] at g; exact g)
      have nxt : ∃ m', m' < m ∧ smI l (addI .i64 (k : Int) 1) m' := ⟨m - 1, by omega, k + 1, by rw [addI_i64 (by omega) (by omega)]; omega, by omega, fun j s hj hs => by
        rcases Nat.lt_or_ge j k with h1 | h1
        · exact hp j s h1 hs
        · obtain rfl : j = k := by omega
          obtain rfl := Option.some.inj (hf.symm.trans hs)
          exact hb⟩
      exact ⟨rfl, nxt⟩
    · have := (List.getElem?_eq_some_iff.1 hs).1
      simp only [br_iff, need_iff, andB_t, andB_f, orB_t, orB_f, notB_t, notB_f, leI_t, leI_f, ltI_t, ltI_f, eqI_t, eqI_f, leN_t, leN_f, eqN_t, eqN_f, eqS_t, eqS_f, eqB_t, eqB_f, catOk_t, leC_t] at hge; omega
  · exact h.elim
def Sess.okAt (l : List Sess) (j : Nat) : Prop := ∃ s, l[j]? = some s ∧ validF s.name = true ∧ idxF l s.name = (j : Int) ∧ fidsB s.fids = true ∧ 0 ≤ s.til ∧ s.til ≤ 1099511627840
noncomputable def rightB (l : List Sess) : Bool := @decide (l.length ≤ 16 ∧ ∀ j, j < l.length → Sess.okAt l j) (Classical.propDecidable _)
theorem rightB_iff {l : List Sess} : rightB l = true ↔ (l.length ≤ 16 ∧ ∀ j, j < l.length → Sess.okAt l j) := by simp [rightB]
theorem rightB_not {l : List Sess} (h : ¬ (l.length ≤ 16 ∧ ∀ j, j < l.length → Sess.okAt l j)) : rightB l = false := by rw [← Bool.not_eq_true, rightB_iff]; exact h
theorem idxN_le {s : List UInt8} : ∀ {l : List Sess} {i k : Nat} {f : Sess}, l[i]? = some f → f.name = s → ∃ j, j ≤ i ∧ idxN s l k = some (k + j)
  | a :: l, 0, k, f, h, hn => by
    obtain rfl : a = f := by simpa using h
    exact ⟨0, by omega, by rw [idxN, if_pos hn]; rfl⟩
  | a :: l, i + 1, k, f, h, hn => by
    rw [idxN]
    split
    · exact ⟨0, by omega, rfl⟩
    · obtain ⟨j, hj, e⟩ := idxN_le (k := k + 1) (l := l) (i := i) (by simpa using h) hn
      exact ⟨j + 1, by omega, by rw [e]; congr 1; omega⟩
theorem idxF_le {l : List Sess} {i : Nat} {f : Sess} (h : l[i]? = some f) : 0 ≤ idxF l f.name ∧ idxF l f.name ≤ i := by
  obtain ⟨j, hj, e⟩ := idxN_le (k := 0) h rfl
  unfold idxF; rw [e]; simp only; omega
def rightCon : Con := fun vs bs K => match vs, bs with
  | [.lst xs], [] => ∃ l, xs = sessV l ∧ (∀ (j : Nat) s, l[j]? = some s → s.name.length ≤ 140737488351232) ∧ K (.bool (rightB l)) []
  | _, _ => False
def rI (l : List Sess) (i : Int) (m : Nat) : Prop := ∃ k : Nat, i = (k : Int) ∧ k + m = l.length ∧ ∀ j, j < k → Sess.okAt l j
theorem sokAt_next {l : List Sess} {k : Nat} (hp : ∀ j, j < k → Sess.okAt l j) (h : Sess.okAt l k) : ∀ j, j < k + 1 → Sess.okAt l j := fun j hj => by
  rcases Nat.lt_or_ge j k with h1 | h1
  · exact hp j h1
  · obtain rfl : j = k := by omega
    exact h
theorem sr_con {n : Nat} (hn : 4 ≤ n) : ConOk (evalF Tryd.prog cfgN n) 11 rightCon := by
  intro vs bs K h
  unfold rightCon at h
  split at h
  · obtain ⟨l, rfl, hz, hK⟩ := h
    refine run_of (lp := lpOf [(4, srL fun _ _ x m => rI l x.i m)]) (ct := ctOf [(15, valCon), (27, atCon), (28, fidsCon)]) (by omega)
      (fun k hk => ctOf_ok (ctOf_cons (val_con (by omega)) (ctOf_cons (find_con (by omega)) (ctOf_cons (fids_con (by omega)) (ctOf_nil _))))) ?_
    rw [sr_vc]
    have e : ∀ {b' : Bool}, b' = rightB l → K (.bool b') [] := fun q => by rw [q]; exact hK
    have no : ∀ {j}, j < l.length → ¬ Sess.okAt l j → K (.bool false) [] := fun hj h => e (rightB_not fun q => h (q.2 _ hj)).symm
    have hL : lenL (sessV l) = (l.length : Int) := by simp [lenL, sessV_len]
    rw [hL, br_iff]
    refine ⟨fun h => e (rightB_not fun q => ?_).symm, fun h => ?_⟩
    · simp only [br_iff, need_iff, andB_t, andB_f, orB_t, orB_f, notB_t, notB_f, leI_t, leI_f, ltI_t, ltI_f, eqI_t, eqI_f, leN_t, leN_f, eqN_t, eqN_f, eqS_t, eqS_f, eqB_t, eqB_f, catOk_t, leC_t] at h; omega
    simp only [br_iff, need_iff, andB_t, andB_f, orB_t, orB_f, notB_t, notB_f, leI_t, leI_f, ltI_t, ltI_f, eqI_t, eqI_f, leN_t, leN_f, eqN_t, eqN_f, eqS_t, eqS_f, eqB_t, eqB_f, catOk_t, leC_t] at h
    refine ⟨⟨l.length, by omega, 0, rfl, by omega, fun j hj => by omega⟩, ?_⟩
    rintro ⟨i⟩ m ⟨k, rfl, hk, hp⟩
    rw [br_iff]
    refine ⟨fun hlt => ?_, fun hge => ?_⟩
    · have hlt : k < l.length := by simp only [br_iff, need_iff, andB_t, andB_f, orB_t, orB_f, notB_t, notB_f, leI_t, leI_f, ltI_t, ltI_f, eqI_t, eqI_f, leN_t, leN_f, eqN_t, eqN_f, eqS_t, eqS_f, eqB_t, eqB_f, catOk_t, leC_t] at hlt; omega
      have hf : l[k]? = some l[k] := List.getElem?_eq_getElem hlt
      generalize l[k] = f at hf
      have hin : andB (leI 0 (k : Int)) (ltI (k : Int) (l.length : Int)) = true := by simp only [br_iff, need_iff, andB_t, andB_f, orB_t, orB_f, notB_t, notB_f, leI_t, leI_f, ltI_t, ltI_f, eqI_t, eqI_f, leN_t, leN_f, eqN_t, eqN_f, eqS_t, eqS_f, eqB_t, eqB_f, catOk_t, leC_t]; omega
      have hle := idxF_le hf
      have bad : (Sess.okAt l k → False) → K (.bool false) [] := fun h => no hlt h
      have get : Sess.okAt l k → validF f.name = true ∧ idxF l f.name = (k : Int) ∧ fidsB f.fids = true ∧ 0 ≤ f.til ∧ f.til ≤ 1099511627840 := fun ⟨s, h1, h2⟩ => by
        obtain rfl := Option.some.inj (hf.symm.trans h1)
        exact h2
      have nxt : Sess.okAt l k → ∃ m', m' < m ∧ rI l (addI .i64 (k : Int) 1) m' := fun h => ⟨m - 1, by omega, k + 1, by rw [addI_i64 (by omega) (by omega)]; omega, by omega, sokAt_next hp h⟩
      have hn := hz k f hf
      rw [need_iff, need_iff]
      refine ⟨hin, by simpa using sessV_ok hlt, f.name, fidsV f.fids, f.til, by rw [sessV_row hf]; rfl, ?_⟩
      rw [need_iff]
      refine ⟨by simp only [br_iff, need_iff, andB_t, andB_f, orB_t, orB_f, notB_t, notB_f, leI_t, leI_f, ltI_t, ltI_f, eqI_t, eqI_f, leN_t, leN_f, eqN_t, eqN_f, eqS_t, eqS_f, eqB_t, eqB_f, catOk_t, leC_t, Int.ofNat_eq_natCast]; omega, ?_⟩
      rw [br_iff]
      refine ⟨fun g => bad fun q => ?_, fun g1 => ⟨l, rfl, by omega, ?_⟩⟩
      · simp only [br_iff, need_iff, andB_t, andB_f, orB_t, orB_f, notB_t, notB_f, leI_t, leI_f, ltI_t, ltI_f, eqI_t, eqI_f, leN_t, leN_f, eqN_t, eqN_f, eqS_t, eqS_f, eqB_t, eqB_f, catOk_t, leC_t] at g; have := (get q).1; rw [g] at this; cases this
      rw [br_iff]
      refine ⟨fun g => bad fun q => ?_, fun g2 => ⟨f.fids, rfl, ?_⟩⟩
      · simp only [br_iff, need_iff, andB_t, andB_f, orB_t, orB_f, notB_t, notB_f, leI_t, leI_f, ltI_t, ltI_f, eqI_t, eqI_f, leN_t, leN_f, eqN_t, eqN_f, eqS_t, eqS_f, eqB_t, eqB_f, catOk_t, leC_t] at g; have := (get q).2.1; omega
      rw [br_iff]
      refine ⟨fun g => bad fun q => ?_, fun g3 => ?_⟩
      · simp only [br_iff, need_iff, andB_t, andB_f, orB_t, orB_f, notB_t, notB_f, leI_t, leI_f, ltI_t, ltI_f, eqI_t, eqI_f, leN_t, leN_f, eqN_t, eqN_f, eqS_t, eqS_f, eqB_t, eqB_f, catOk_t, leC_t] at g; have := (get q).2.2.1; rw [g] at this; cases this
      rw [br_iff]
      refine ⟨fun g => bad fun q => ?_, fun g4 => ?_⟩
      · simp only [br_iff, need_iff, andB_t, andB_f, orB_t, orB_f, notB_t, notB_f, leI_t, leI_f, ltI_t, ltI_f, eqI_t, eqI_f, leN_t, leN_f, eqN_t, eqN_f, eqS_t, eqS_f, eqB_t, eqB_f, catOk_t, leC_t] at g; have := (get q).2.2.2.1; omega
      rw [br_iff]
      refine ⟨fun g => bad fun q => ?_, fun g5 => ⟨rfl, nxt ⟨f, hf, ?_⟩⟩⟩
      · simp only [br_iff, need_iff, andB_t, andB_f, orB_t, orB_f, notB_t, notB_f, leI_t, leI_f, ltI_t, ltI_f, eqI_t, eqI_f, leN_t, leN_f, eqN_t, eqN_f, eqS_t, eqS_f, eqB_t, eqB_f, catOk_t, leC_t] at g; have := (get q).2.2.2.2; omega
      simp only [br_iff, need_iff, andB_t, andB_f, orB_t, orB_f, notB_t, notB_f, leI_t, leI_f, ltI_t, ltI_f, eqI_t, eqI_f, leN_t, leN_f, eqN_t, eqN_f, eqS_t, eqS_f, eqB_t, eqB_f, catOk_t, leC_t] at g1 g2 g3 g4 g5
      exact ⟨g1, by omega, g3, by omega, by omega⟩
    · have : k = l.length := by simp only [br_iff, need_iff, andB_t, andB_f, orB_t, orB_f, notB_t, notB_f, leI_t, leI_f, ltI_t, ltI_f, eqI_t, eqI_f, leN_t, leN_f, eqN_t, eqN_f, eqS_t, eqS_f, eqB_t, eqB_f, catOk_t, leC_t] at hge; omega
      subst this
      exact e (rightB_iff.2 ⟨by omega, hp⟩).symm
  · exact h.elim
theorem rr_con {n : Nat} (hn : 4 ≤ n) : ConOk (evalF Tryd.prog cfgN n) 12 rightCon := by
  intro vs bs K h
  unfold rightCon at h
  split at h
  · obtain ⟨l, rfl, hz, hK⟩ := h
    refine run_of (lp := lpOf [(4, rrL fun _ _ x m => rI l x.i m)]) (ct := ctOf [(29, valCon), (30, atCon), (31, fidsCon), (32, inlC Tryd.prog cfgN (ctOf []) 32)]) (by omega)
      (fun k hk => ctOf_ok (ctOf_cons (rval_con (by omega)) (ctOf_cons (at_con (by omega)) (ctOf_cons (gids_con (by omega)) (ctOf_cons (inl_ok (by omega) (fun _ _ => noCt_ok _)) (ctOf_nil _)))))) ?_
    rw [rr_vc]
    have e : ∀ {b' : Bool}, b' = rightB l → K (.bool b') [] := fun q => by rw [q]; exact hK
    have no : ∀ {j}, j < l.length → ¬ Sess.okAt l j → K (.bool false) [] := fun hj h => e (rightB_not fun q => h (q.2 _ hj)).symm
    have hL : lenL (sessV l) = (l.length : Int) := by simp [lenL, sessV_len]
    rw [hL, br_iff]
    refine ⟨fun h => e (rightB_not fun q => ?_).symm, fun h => ?_⟩
    · simp only [br_iff, need_iff, andB_t, andB_f, orB_t, orB_f, notB_t, notB_f, leI_t, leI_f, ltI_t, ltI_f, eqI_t, eqI_f, leN_t, leN_f, eqN_t, eqN_f, eqS_t, eqS_f, eqB_t, eqB_f, catOk_t, leC_t] at h; omega
    simp only [br_iff, need_iff, andB_t, andB_f, orB_t, orB_f, notB_t, notB_f, leI_t, leI_f, ltI_t, ltI_f, eqI_t, eqI_f, leN_t, leN_f, eqN_t, eqN_f, eqS_t, eqS_f, eqB_t, eqB_f, catOk_t, leC_t] at h
    refine ⟨⟨l.length, by omega, 0, rfl, by omega, fun j hj => by omega⟩, ?_⟩
    rintro ⟨i⟩ m ⟨k, rfl, hk, hp⟩
    rw [br_iff]
    refine ⟨fun hlt => ?_, fun hge => ?_⟩
    · have hlt : k < l.length := by simp only [br_iff, need_iff, andB_t, andB_f, orB_t, orB_f, notB_t, notB_f, leI_t, leI_f, ltI_t, ltI_f, eqI_t, eqI_f, leN_t, leN_f, eqN_t, eqN_f, eqS_t, eqS_f, eqB_t, eqB_f, catOk_t, leC_t] at hlt; omega
      have hf : l[k]? = some l[k] := List.getElem?_eq_getElem hlt
      generalize l[k] = f at hf
      have hin : andB (leI 0 (k : Int)) (ltI (k : Int) (l.length : Int)) = true := by simp only [br_iff, need_iff, andB_t, andB_f, orB_t, orB_f, notB_t, notB_f, leI_t, leI_f, ltI_t, ltI_f, eqI_t, eqI_f, leN_t, leN_f, eqN_t, eqN_f, eqS_t, eqS_f, eqB_t, eqB_f, catOk_t, leC_t]; omega
      have hle := idxF_le hf
      have bad : (Sess.okAt l k → False) → K (.bool false) [] := fun h => no hlt h
      have get : Sess.okAt l k → validF f.name = true ∧ idxF l f.name = (k : Int) ∧ fidsB f.fids = true ∧ 0 ≤ f.til ∧ f.til ≤ 1099511627840 := fun ⟨s, h1, h2⟩ => by
        obtain rfl := Option.some.inj (hf.symm.trans h1)
        exact h2
      have nxt : Sess.okAt l k → ∃ m', m' < m ∧ rI l (addI .i64 (k : Int) 1) m' := fun h => ⟨m - 1, by omega, k + 1, by rw [addI_i64 (by omega) (by omega)]; omega, by omega, sokAt_next hp h⟩
      have hn := hz k f hf
      rw [need_iff, need_iff]
      have hok : okRow (sessV l) (Int.toNat (k : Int)) 3 = true := by simpa using sessV_ok hlt
      refine ⟨hin, hok, f.name, by rw [sessV_row hf]; rfl, ?_⟩
      rw [need_iff]
      refine ⟨by simp only [br_iff, need_iff, andB_t, andB_f, orB_t, orB_f, notB_t, notB_f, leI_t, leI_f, ltI_t, ltI_f, eqI_t, eqI_f, leN_t, leN_f, eqN_t, eqN_f, eqS_t, eqS_f, eqB_t, eqB_f, catOk_t, leC_t, Int.ofNat_eq_natCast]; omega, ?_⟩
      rw [br_iff]
      refine ⟨fun g => bad fun q => ?_, fun g1 => ?_⟩
      · simp only [br_iff, need_iff, andB_t, andB_f, orB_t, orB_f, notB_t, notB_f, leI_t, leI_f, ltI_t, ltI_f, eqI_t, eqI_f, leN_t, leN_f, eqN_t, eqN_f, eqS_t, eqS_f, eqB_t, eqB_f, catOk_t, leC_t] at g; have := (get q).1; rw [g] at this; cases this
      rw [need_iff, need_iff]
      refine ⟨hin, hok, f.name, by rw [sessV_row hf]; rfl, l, rfl, by omega, ?_⟩
      rw [br_iff]
      refine ⟨fun g => bad fun q => ?_, fun g2 => ?_⟩
      · simp only [br_iff, need_iff, andB_t, andB_f, orB_t, orB_f, notB_t, notB_f, leI_t, leI_f, ltI_t, ltI_f, eqI_t, eqI_f, leN_t, leN_f, eqN_t, eqN_f, eqS_t, eqS_f, eqB_t, eqB_f, catOk_t, leC_t] at g; have := (get q).2.1; omega
      rw [need_iff, need_iff]
      refine ⟨hin, hok, fidsV f.fids, by rw [sessV_row hf]; rfl, f.fids, rfl, ?_⟩
      rw [br_iff]
      refine ⟨fun g => bad fun q => ?_, fun g3 => ?_⟩
      · simp only [br_iff, need_iff, andB_t, andB_f, orB_t, orB_f, notB_t, notB_f, leI_t, leI_f, ltI_t, ltI_f, eqI_t, eqI_f, leN_t, leN_f, eqN_t, eqN_f, eqS_t, eqS_f, eqB_t, eqB_f, catOk_t, leC_t] at g; have := (get q).2.2.1; rw [g] at this; cases this
      rw [need_iff, need_iff]
      refine ⟨hin, hok, f.til, by rw [sessV_row hf]; rfl, ?_⟩
      rw [br_iff]
      refine ⟨fun g4 => ?_, fun g => bad fun q => ?_⟩
      · rw [br_iff]
        refine ⟨fun g => bad fun q => ?_, fun g5 => ⟨rfl, nxt ⟨f, hf, ?_⟩⟩⟩
        · simp only [br_iff, need_iff, andB_t, andB_f, orB_t, orB_f, notB_t, notB_f, leI_t, leI_f, ltI_t, ltI_f, eqI_t, eqI_f, leN_t, leN_f, eqN_t, eqN_f, eqS_t, eqS_f, eqB_t, eqB_f, catOk_t, leC_t] at g; have := (get q).2.2.2.2; omega
        simp only [br_iff, need_iff, andB_t, andB_f, orB_t, orB_f, notB_t, notB_f, leI_t, leI_f, ltI_t, ltI_f, eqI_t, eqI_f, leN_t, leN_f, eqN_t, eqN_f, eqS_t, eqS_f, eqB_t, eqB_f, catOk_t, leC_t] at g1 g2 g3 g4 g5
        exact ⟨g1, by omega, g3, by omega, by omega⟩
      · simp only [br_iff, need_iff, andB_t, andB_f, orB_t, orB_f, notB_t, notB_f, leI_t, leI_f, ltI_t, ltI_f, eqI_t, eqI_f, leN_t, leN_f, eqN_t, eqN_f, eqS_t, eqS_f, eqB_t, eqB_f, catOk_t, leC_t] at g; have := (get q).2.2.2.1; omega
    · have : k = l.length := by simp only [br_iff, need_iff, andB_t, andB_f, orB_t, orB_f, notB_t, notB_f, leI_t, leI_f, ltI_t, ltI_f, eqI_t, eqI_f, leN_t, leN_f, eqN_t, eqN_f, eqS_t, eqS_f, eqB_t, eqB_f, catOk_t, leC_t] at hge; omega
      subst this
      exact e (rightB_iff.2 ⟨by omega, hp⟩).symm
  · exact h.elim
end Go.Proofs.YtjilikmpfmifkaaDoor
namespace Go.Proofs.YtjilikmpfmifkaaDoor
open Go.RowKit
set_option maxRecDepth 100000
set_option linter.unusedVariables false
set_option linter.unusedSimpArgs false
theorem lri_vc (xs : List (List V)) (K : V → List Bk → Prop) : vcF Tryd.prog cfgN (ctOf [(9, smCon), (11, rightCon), (12, rightCon), (10, okCon)]) (lpOf []) 3 [.lst xs] [] K = (
  ∃ l2 : List Sess, ((xs : List (List V)) = sessV l2) ∧ (
  ∀ b3 : Bool, (((b3 : Bool) = true) → (
  (l2.length ≤ 20) ∧ (
  ∀ j4 : Nat, ∀ s5 : Sess, ((l2.get?Internal j4 : Option Sess) = some s5) → (
  s5.2.length ≤ 40)))) → (
  br (notB b3) (
    K (V.bool true) []) (
    ∃ l4 : List Sess, ((xs : List (List V)) = sessV l4) ∧ (
    (∀ j5 : Nat, ∀ s6 : Sess, ((l4.get?Internal j5 : Option Sess) = some s6) → (
    s6.1.length ≤ 140737488351232)) ∧ (
    ∃ l5 : List Sess, ((xs : List (List V)) = sessV l5) ∧ (
    (∀ j6 : Nat, ∀ s7 : Sess, ((l5.get?Internal j6 : Option Sess) = some s7) → (
    s7.1.length ≤ 140737488351232)) ∧ (
    br (eqB (rightB l4) (rightB l5)) (
      K (V.bool true) []) (
      K (V.bool false) []))))))))) := by kernel_rfl

end Go.Proofs.YtjilikmpfmifkaaDoor
namespace Go.Proofs.YtjilikmpfmifkaaDoor
open Go.RowKit
set_option maxRecDepth 100000
set_option linter.unusedVariables false
set_option linter.unusedSimpArgs false
theorem right_says {l : List Sess} (hz : ∀ (j : Nat) s, l[j]? = some s → s.name.length ≤ 140737488351232) : Says 3 [.lst (sessV l)] := by
  refine run_of (lp := lpOf []) (ct := ctOf [(9, smCon), (11, rightCon), (12, rightCon), (10, okCon)]) (by omega)
    (fun k hk => ctOf_ok (ctOf_cons (sm_con (by omega)) (ctOf_cons (sr_con (by omega)) (ctOf_cons (rr_con (by omega)) (ctOf_cons (ok_con (by omega)) (ctOf_nil _)))))) ?_
  rw [lri_vc]
  refine ⟨l, rfl, fun b _ => ?_⟩
  rw [br_iff]
  refine ⟨fun _ => ⟨rfl, rfl⟩, fun _ => ⟨l, rfl, hz, l, rfl, hz, ?_⟩⟩
  rw [br_iff]
  exact ⟨fun _ => ⟨rfl, rfl⟩, fun h => by simp [eqB] at h⟩
end Go.Proofs.YtjilikmpfmifkaaDoor
namespace Go.Proofs.YtjilikmpfmifkaaDoor
open Go.RowKit
set_option linter.unusedVariables false
set_option linter.unusedSimpArgs false
theorem fidsV_lenL (l : List Fid) : lenL (fidsV l) = (l.length : Int) := by simp [lenL, fidsV]
theorem fidsV_all (l : List Fid) : List.take l.length (fidsV l) = fidsV l := List.take_of_length_le (by simp [fidsV])
theorem fidsV_all1 (l : List Fid) (x : List V) : List.take (l.length + 1) (fidsV l ++ [x]) = fidsV l ++ [x] := List.take_of_length_le (by simp [fidsV])
theorem fidsV_add (l : List Fid) (f : Fid) : fidsV l ++ [f.v] = fidsV (l ++ [f]) := by simp [fidsV]
theorem fidsV_snoc {l : List Fid} {j : Nat} {f : Fid} (h : l[j]? = some f) : fidsV (l.take j) ++ [f.v] = fidsV (l.take (j + 1)) := by
  have := (List.getElem?_eq_some_iff.1 h); obtain ⟨h1, rfl⟩ := this
  unfold fidsV; rw [List.take_succ_eq_append_getElem h1, List.map_append]; rfl
theorem fidsV_app (a b : List Fid) : fidsV a ++ fidsV b = fidsV (a ++ b) := by simp [fidsV]
theorem fidsV_take (a : List Fid) (n : Nat) : List.take n (fidsV a) = fidsV (a.take n) := by simp [fidsV]
theorem fidsV_drop (a : List Fid) (n : Nat) : List.drop n (fidsV a) = fidsV (a.drop n) := by simp [fidsV]
theorem fidsV_set (a : List Fid) (n : Nat) (f : Fid) : (fidsV a).set n f.v = fidsV (a.set n f) := by simp [fidsV]
theorem fidsV_head (a : List Fid) : headOkP 7 (fidsV a) = true := by cases a <;> rfl
theorem fidsV_get (a : List Fid) (i : Nat) : (fidsV a)[i]? = (a[i]?).map Fid.v := by simp [fidsV]
theorem Fid.v_inj {x y : Fid} : x.v = y.v ↔ x = y := by
  cases x; cases y
  simp [Fid.v, and_self]
theorem fidsV_inj {a b : List Fid} : fidsV a = fidsV b ↔ a = b := List.map_inj_right fun _ _ h => Fid.v_inj.1 h
def fidSh : Sh := .pair (.int .i64) (.pair (.int .i64) (.pair .str (.pair .bool (.pair .bool (.pair (.int .i64) (.pair (.int .i64) .unit))))))
def Fid.fit (x : Fid) : Prop := (IntKind.i64.min ≤ x.num ∧ x.num ≤ IntKind.i64.max) ∧ (IntKind.i64.min ≤ x.id ∧ x.id ≤ IntKind.i64.max) ∧ x.user.length ≤ 140737488351232 ∧ True ∧ True ∧ (IntKind.i64.min ≤ x.mode ∧ x.mode ≤ IntKind.i64.max) ∧ (IntKind.i64.min ≤ x.next ∧ x.next ≤ IntKind.i64.max)
theorem Fid.fits {vs : List V} (h : Fits fidSh vs) : ∃ x : Fid, vs = x.v ∧ x.fit := by
  unfold fidSh at h
  obtain ⟨u1, w1, rfl, a1, b1⟩ := h
  obtain ⟨x1, rfl, fx1⟩ := a1
  obtain ⟨u2, w2, rfl, a2, b2⟩ := b1
  obtain ⟨x2, rfl, fx2⟩ := a2
  obtain ⟨u3, w3, rfl, a3, b3⟩ := b2
  obtain ⟨x3, rfl, fx3⟩ := a3
  obtain ⟨u4, w4, rfl, a4, b4⟩ := b3
  obtain ⟨x4, rfl⟩ := a4
  obtain ⟨u5, w5, rfl, a5, b5⟩ := b4
  obtain ⟨x5, rfl⟩ := a5
  obtain ⟨u6, w6, rfl, a6, b6⟩ := b5
  obtain ⟨x6, rfl, fx6⟩ := a6
  obtain ⟨u7, w7, rfl, a7, b7⟩ := b6
  obtain ⟨x7, rfl, fx7⟩ := a7
  obtain rfl : w7 = [] := b7
  exact ⟨⟨x1, x2, x3, x4, x5, x6, x7⟩, rfl, ⟨fx1, fx2, fx3, trivial, trivial, fx6, fx7⟩⟩

theorem sessV_lenL (l : List Sess) : lenL (sessV l) = (l.length : Int) := by simp [lenL, sessV]
theorem sessV_all (l : List Sess) : List.take l.length (sessV l) = sessV l := List.take_of_length_le (by simp [sessV])
theorem sessV_all1 (l : List Sess) (x : List V) : List.take (l.length + 1) (sessV l ++ [x]) = sessV l ++ [x] := List.take_of_length_le (by simp [sessV])
theorem sessV_add (l : List Sess) (f : Sess) : sessV l ++ [f.v] = sessV (l ++ [f]) := by simp [sessV]
theorem sessV_snoc {l : List Sess} {j : Nat} {f : Sess} (h : l[j]? = some f) : sessV (l.take j) ++ [f.v] = sessV (l.take (j + 1)) := by
  have := (List.getElem?_eq_some_iff.1 h); obtain ⟨h1, rfl⟩ := this
  unfold sessV; rw [List.take_succ_eq_append_getElem h1, List.map_append]; rfl
theorem sessV_app (a b : List Sess) : sessV a ++ sessV b = sessV (a ++ b) := by simp [sessV]
theorem sessV_take (a : List Sess) (n : Nat) : List.take n (sessV a) = sessV (a.take n) := by simp [sessV]
theorem sessV_drop (a : List Sess) (n : Nat) : List.drop n (sessV a) = sessV (a.drop n) := by simp [sessV]
theorem sessV_set (a : List Sess) (n : Nat) (f : Sess) : (sessV a).set n f.v = sessV (a.set n f) := by simp [sessV]
theorem sessV_head (a : List Sess) : headOkP 3 (sessV a) = true := by cases a <;> rfl
theorem sessV_get (a : List Sess) (i : Nat) : (sessV a)[i]? = (a[i]?).map Sess.v := by simp [sessV]
theorem Sess.v_inj {x y : Sess} : x.v = y.v ↔ x = y := by
  cases x; cases y
  simp [Sess.v, fidsV_inj]
theorem sessV_inj {a b : List Sess} : sessV a = sessV b ↔ a = b := List.map_inj_right fun _ _ h => Sess.v_inj.1 h
def sessSh : Sh := .pair .str (.pair (.slice 56 7 fidSh) (.pair (.int .i64) .unit))
def Sess.fit (x : Sess) : Prop := x.name.length ≤ 140737488351232 ∧ (x.fids.length * 56 ≤ 140737488351232 ∧ ∀ a ∈ x.fids, Fid.fit a) ∧ (IntKind.i64.min ≤ x.til ∧ x.til ≤ IntKind.i64.max)
theorem Sess.fits {vs : List V} (h : Fits sessSh vs) : ∃ x : Sess, vs = x.v ∧ x.fit := by
  unfold sessSh at h
  obtain ⟨u1, w1, rfl, a1, b1⟩ := h
  obtain ⟨x1, rfl, fx1⟩ := a1
  obtain ⟨u2, w2, rfl, a2, b2⟩ := b1
  obtain ⟨rx2, rfl, lx2, ex2⟩ := a2
  obtain ⟨x2, rfl, gx2⟩ := rows_of (Fid.v) (fun a => Fid.fit a) (fun q hq => Fid.fits (ex2 q hq).2)
  rw [List.length_map] at lx2
  obtain ⟨u3, w3, rfl, a3, b3⟩ := b2
  obtain ⟨x3, rfl, fx3⟩ := a3
  obtain rfl : w3 = [] := b3
  exact ⟨⟨x1, x2, x3⟩, rfl, ⟨fx1, ⟨lx2, gx2⟩, fx3⟩⟩

def sesssSh : Sh := .slice 48 3 sessSh
theorem sess_fits {v : V} (h : FitsA sesssSh v) : ∃ l : List Sess, v = .lst (sessV l) ∧ ∀ a ∈ l, a.fit := by
  obtain ⟨xs, h1, _, h2⟩ := h
  obtain ⟨l, rfl, hl⟩ := rows_of Sess.v (fun a => a.fit) (fun q hq => Sess.fits (h2 q hq).2)
  exact ⟨l, by simpa [sessV] using h1, hl⟩
end Go.Proofs.YtjilikmpfmifkaaDoor
namespace Go.Proofs.YtjilikmpfmifkaaDoor
open Go.RowKit
set_option linter.unusedVariables false
theorem right_fits {us : List V} (h : FitsAll [sesssSh] us) : Says 3 us := by
  obtain ⟨v, r, rfl, h1, rfl⟩ := h
  obtain ⟨l, rfl, hl⟩ := sess_fits h1
  exact right_says fun j s hs => (hl s (List.mem_of_getElem? hs)).1
end Go.Proofs.YtjilikmpfmifkaaDoor
