/- Processes: conditions of the control file and of PartsKill. -/
import Derived.Test.YthhpdnlfhofanaaGreatDoorPkRef
import Derived.Test.YthhpdnlfhofanaaGreatDoorEvF
namespace Go.Proofs.YthhpdnlfhofanaaGreatDoor
open Go.RowKit
set_option maxRecDepth 100000
set_option linter.unusedVariables false
set_option linter.unusedSimpArgs false
def fdCon : Con := fun vs bs K => match vs, bs with
  | [.str [107, 105, 108, 108]], [] => K (.lst [[.str [107, 105, 108, 108]]]) []
  | _, _ => False

def tsCon : Con := fun vs bs K => match vs, bs with
  | [.str [107, 105, 108, 108, 10], .str [10]], [] => K (.str [107, 105, 108, 108]) []
  | _, _ => False

def ctlCon : Con := fun vs bs K => match vs, bs with
  | [.agg [.int .i64 nx, .int .i64 gp, .lst xs], .str u, .int .i64 id, .str [107, 105, 108, 108]], [] => ∃ (l : List Proc) (p : Proc), xs = procV l ∧ rightP nx l ∧ isP l id p ∧ u = p.user ∧ K (.tup [.agg [.int .i64 nx, .int .i64 gp, .lst (exitX xs id [107, 105, 108, 108, 101, 100])], .int .i64 (exitE xs id [107, 105, 108, 108, 101, 100])]) []
  | _, _ => False

def wrCon : Con := fun vs bs K => match vs, bs with
  | [.agg [.int .i64 nx, .int .i64 gp, .lst xs], .str u, .int .i64 k, .str [107, 105, 108, 108, 10]], [] => ∃ (l : List Proc) (id : Int) (p : Proc), xs = procV l ∧ rightP nx l ∧ isP l id p ∧ u = p.user ∧ k = addI .i64 (mulI .i64 16 id) 1 ∧ ∀ n : Int, (exitE xs id [107, 105, 108, 108, 101, 100] = 0 → n = 5) → K (.tup [.agg [.int .i64 nx, .int .i64 gp, .lst (exitX xs id [107, 105, 108, 108, 101, 100])], .int .i64 n, .int .i64 (exitE xs id [107, 105, 108, 108, 101, 100])]) []
  | _, _ => False

theorem ctl_vc [MaxL] (nx gp id : Int) (xs : List (List V)) (u : List UInt8) (K : V → List Bk → Prop) : vcF Tryz.prog cfgE (ctOf [(13, findCon), (46, cpdCon), (129, fdCon)]) (lpOf []) 48 [.agg [.int .i64 nx, .int .i64 gp, .lst xs], .str u, .int .i64 id, .str [107, 105, 108, 108]] [] K = (
  ∃ l7 : List Proc, ((xs : List (List V)) = procV l7) ∧ (
  (((l7.length : Nat) ≤ 100000)) ∧ (
  (lenP l7) ∧ (
  ((noneP l7 id) → (
  ∃ l8 : List Proc, ((xs : List (List V)) = procV l8) ∧ (
  (((l8.length : Nat) ≤ 100000)) ∧ (
  (lenP l8) ∧ (
  K (V.tup [V.agg [V.int IntKind.i64 nx, V.int IntKind.i64 gp, V.lst xs], V.int IntKind.i64 42]) []))))) ∧ (
  ∀ p8 : Proc, (isP l7 id p8) → (
  br (notB (eqS p8.4 u)) (
    ∃ l9 : List Proc, ((xs : List (List V)) = procV l9) ∧ (
    (((l9.length : Nat) ≤ 100000)) ∧ (
    (lenP l9) ∧ (
    K (V.tup [V.agg [V.int IntKind.i64 nx, V.int IntKind.i64 gp, V.lst xs], V.int IntKind.i64 11]) [])))) (
    ∃ l9 : List Proc, ((xs : List (List V)) = procV l9) ∧ (
    (((l9.length : Nat) ≤ 100000)) ∧ (
    (lenP l9) ∧ (
    ∃ s10 : List UInt8, ((some [V.str [107, 105, 108, 108]] : Option (List V)) = some [V.str s10]) ∧ (
    br (eqS s10 [115, 116, 111, 112]) (
      False) (
      br (eqS s10 [115, 116, 97, 114, 116]) (
        False) (
        br (eqS s10 [107, 105, 108, 108]) (
          need (exitOk xs) (
          br (notB (eqI (exitE xs id [107, 105, 108, 108, 101, 100]) 0)) (
            ∃ l11 : List Proc, ((xs : List (List V)) = procV l11) ∧ (
            (((l11.length : Nat) ≤ 100000)) ∧ (
            (lenP l11) ∧ (
            K (V.tup [V.agg [V.int IntKind.i64 nx, V.int IntKind.i64 gp, V.lst xs], V.int IntKind.i64 (exitE xs id [107, 105, 108, 108, 101, 100])]) [])))) (
            K (V.tup [V.agg [V.int IntKind.i64 nx, V.int IntKind.i64 gp, V.lst (exitX xs id [107, 105, 108, 108, 101, 100])], V.int IntKind.i64 0]) []))) (
          ∃ l11 : List Proc, ((xs : List (List V)) = procV l11) ∧ (
          (((l11.length : Nat) ≤ 100000)) ∧ (
          (lenP l11) ∧ (
          K (V.tup [V.agg [V.int IntKind.i64 nx, V.int IntKind.i64 gp, V.lst xs], V.int IntKind.i64 54]) []))))))))))))))))) := by kernel_rfl

theorem wr_vc [MaxL] (nx gp k : Int) (xs : List (List V)) (u : List UInt8) (K : V → List Bk → Prop) : vcF Tryz.prog cfgE (ctOf [(45, flCon), (46, cpdCon), (47, tsCon), (48, ctlCon)]) (lpOf []) 14 [.agg [.int .i64 nx, .int .i64 gp, .lst xs], .str u, .int .i64 k, .str [107, 105, 108, 108, 10]] [] K = (
  ∃ l7 : List Proc, ∃ id8 : Int, ∃ p9 : Proc, ((xs : List (List V)) = procV l7) ∧ (
  (((l7.length : Nat) ≤ 100000)) ∧ (
  (lenP l7) ∧ (
  ((k : Int) = addI IntKind.i64 (mulI IntKind.i64 16 id8) 1) ∧ (
  (((1 : Int) ≤ id8)) ∧ (
  (((id8 : Int) ≤ 1000000000)) ∧ (
  (isP l7 id8 p9) ∧ (
  (∀ q10 : Proc, (isP l7 id8 q10) → (
  (q10 : Proc) = p9)) ∧ (
  ∃ l10 : List Proc, ((xs : List (List V)) = procV l10) ∧ (
  (((l10.length : Nat) ≤ 100000)) ∧ (
  (lenP l10) ∧ (
  ∃ l11 : List Proc, ∃ p12 : Proc, ((xs : List (List V)) = procV l11) ∧ (
  (rightP nx l11) ∧ (
  (isP l11 p9.1 p12) ∧ (
  ((u : List UInt8) = p12.4) ∧ (
  br (notB (eqI (exitE xs p9.1 [107, 105, 108, 108, 101, 100]) 0)) (
    ∃ l13 : List Proc, ((xs : List (List V)) = procV l13) ∧ (
    (((l13.length : Nat) ≤ 100000)) ∧ (
    (lenP l13) ∧ (
    K (V.tup [V.agg [V.int IntKind.i64 nx, V.int IntKind.i64 gp, V.lst xs], V.int IntKind.i64 0, V.int IntKind.i64 (exitE xs p9.1 [107, 105, 108, 108, 101, 100])]) [])))) (
    K (V.tup [V.agg [V.int IntKind.i64 nx, V.int IntKind.i64 gp, V.lst (exitX xs p9.1 [107, 105, 108, 108, 101, 100])], V.int IntKind.i64 5, V.int IntKind.i64 0]) []))))))))))))))))) := by kernel_rfl

theorem pk_vc [MaxL] (nx gp id : Int) (xs : List (List V)) (K : V → List Bk → Prop) : vcF Tryz.prog cfgE (ctOf [(7, okCon), (12, rightCon), (13, findCon), (14, wrCon), (16, smCon)]) (lpOf []) 4 [.agg [.int .i64 nx, .int .i64 gp, .lst xs], .int .i64 id] [] K = (
  br (ltI 70 (lenL xs)) (
    K (V.bool true) []) (
    ∃ l6 : List Proc, ((xs : List (List V)) = procV l6) ∧ (
    (((l6.length : Nat) ≤ 70)) ∧ (
    (fitP l6) ∧ (
    ∀ b7 : Bool, (((b7 : Bool) = true) → (
    rightP nx l6)) → (
    br (notB b7) (
      K (V.bool true) []) (
      ∃ l8 : List Proc, ((xs : List (List V)) = procV l8) ∧ (
      (((l8.length : Nat) ≤ 100000)) ∧ (
      (lenP l8) ∧ (
      ((noneP l8 id) → (
      K (V.bool true) [])) ∧ (
      ∀ p9 : Proc, (isP l8 id p9) → (
      ∃ l10 : List Proc, ∃ id11 : Int, ∃ p12 : Proc, ((xs : List (List V)) = procV l10) ∧ (
      (rightP nx l10) ∧ (
      (isP l10 id11 p12) ∧ (
      ((p9.4 : List UInt8) = p12.4) ∧ (
      ((addI IntKind.i64 (mulI IntKind.i64 16 id) 1 : Int) = addI IntKind.i64 (mulI IntKind.i64 16 id11) 1) ∧ (
      ∀ n13 : Int, (((exitE xs id11 [107, 105, 108, 108, 101, 100] : Int) = 0) → (
      (n13 : Int) = 5)) → (
      need (exitOk xs) (
      br (eqI (exitE xs id11 [107, 105, 108, 108, 101, 100]) (exitE xs id [107, 105, 108, 108, 101, 100])) (
        ((nx : Int) = nx) ∧ (
        ((gp : Int) = gp) ∧ (
        ((exitX xs id [107, 105, 108, 108, 101, 100] : List (List V)) = exitX xs id11 [107, 105, 108, 108, 101, 100]) ∧ (
        ∃ l14 : List Proc, ((exitX xs id11 [107, 105, 108, 108, 101, 100] : List (List V)) = procV l14) ∧ (
        (((l14.length : Nat) ≤ 100000)) ∧ (
        (lenP l14) ∧ (
        br (notB (eqI (exitE xs id11 [107, 105, 108, 108, 101, 100]) 0)) (
          K (V.bool true) []) (
          br (eqI n13 5) (
            K (V.bool true) []) (
            K (V.bool false) []))))))))) (
        K (V.bool false) [])))))))))))))))))))) := by kernel_rfl

end Go.Proofs.YthhpdnlfhofanaaGreatDoor
namespace Go.Proofs.YthhpdnlfhofanaaGreatDoor
open Go.RowKit
set_option maxRecDepth 100000
set_option linter.unusedVariables false
set_option linter.unusedSimpArgs false
structure Procs where
  next : Int
  group : Int
  l : List Proc
  deriving Inhabited, DecidableEq
def Procs.v (x : Procs) : List V := [.int .i64 x.next, .int .i64 x.group, .lst (procV x.l)]
def procsV (l : List Procs) : List (List V) := l.map Procs.v
theorem procsV_len (l : List Procs) : (procsV l).length = l.length := by simp [procsV]
theorem procsV_row {l : List Procs} {i : Nat} {f : Procs} (h : l[i]? = some f) : rowAt (procsV l) (i : Int) = f.v := by simp [rowAt, procsV, List.getD, h]
theorem procsV_ok {l : List Procs} {i : Nat} (h : i < l.length) : okRow (procsV l) i 3 = true := by simp [okRow, procsV, List.getElem?_eq_getElem h, Procs.v]
theorem procsV_lenL (l : List Procs) : lenL (procsV l) = (l.length : Int) := by simp [lenL, procsV]
theorem procsV_all (l : List Procs) : List.take l.length (procsV l) = procsV l := List.take_of_length_le (by simp [procsV])
theorem procsV_all1 (l : List Procs) (x : List V) : List.take (l.length + 1) (procsV l ++ [x]) = procsV l ++ [x] := List.take_of_length_le (by simp [procsV])
theorem procsV_add (l : List Procs) (f : Procs) : procsV l ++ [f.v] = procsV (l ++ [f]) := by simp [procsV]
theorem procsV_part {l : List Procs} {i : Nat} {f : Procs} (h : l[i]? = some f) (o n : Nat) : partAt (procsV l) i o n = sub f.v o n := by simp [partAt, procsV, h]
theorem procsV_put {l : List Procs} {i : Nat} {f g : Procs} (h : l[i]? = some f) {o : Nat} {ys : List V} (e : put f.v o ys = some g.v) : putAt (procsV l) i o ys = some (procsV (l.set i g)) := by simp [putAt, procsV, h, e]
theorem procsV_snoc {l : List Procs} {j : Nat} {f : Procs} (h : l[j]? = some f) : procsV (l.take j) ++ [f.v] = procsV (l.take (j + 1)) := by
  have := (List.getElem?_eq_some_iff.1 h); obtain ⟨h1, rfl⟩ := this
  unfold procsV; rw [List.take_succ_eq_append_getElem h1, List.map_append]; rfl
theorem procsV_app (a b : List Procs) : procsV a ++ procsV b = procsV (a ++ b) := by simp [procsV]
theorem procsV_take (a : List Procs) (n : Nat) : List.take n (procsV a) = procsV (a.take n) := by simp [procsV]
theorem procsV_drop (a : List Procs) (n : Nat) : List.drop n (procsV a) = procsV (a.drop n) := by simp [procsV]
theorem procsV_set (a : List Procs) (n : Nat) (f : Procs) : (procsV a).set n f.v = procsV (a.set n f) := by simp [procsV]
theorem procsV_head (a : List Procs) : headOkP 3 (procsV a) = true := by cases a <;> rfl
theorem procsV_get (a : List Procs) (i : Nat) : (procsV a)[i]? = (a[i]?).map Procs.v := by simp [procsV]
theorem Procs.eqv {x y : Procs} : x = y ↔ x.next = y.next ∧ x.group = y.group ∧ x.l = y.l := by cases x; cases y; simp
theorem Procs.v_inj {x y : Procs} : x.v = y.v ↔ x = y := by
  cases x; cases y
  simp [Procs.v, procV_inj, and_assoc]
theorem procsV_inj {a b : List Procs} : procsV a = procsV b ↔ a = b := List.map_inj_right fun _ _ h => Procs.v_inj.1 h
def procsSh : Sh := .pair (.int .i64) (.pair (.int .i64) (.pair (.slice 168 13 procSh) .unit))
def Procs.fit (x : Procs) : Prop := (IntKind.i64.min ≤ x.next ∧ x.next ≤ IntKind.i64.max) ∧ (IntKind.i64.min ≤ x.group ∧ x.group ≤ IntKind.i64.max) ∧ (x.l.length * 168 ≤ 140737488351232 ∧ ∀ a ∈ x.l, Proc.fit a)
theorem Procs.fits {vs : List V} (h : Fits procsSh vs) : ∃ x : Procs, vs = x.v ∧ x.fit := by
  unfold procsSh at h
  obtain ⟨u1, w1, rfl, a1, b1⟩ := h
  obtain ⟨x1, rfl, fx1⟩ := a1
  obtain ⟨u2, w2, rfl, a2, b2⟩ := b1
  obtain ⟨x2, rfl, fx2⟩ := a2
  obtain ⟨u3, w3, rfl, a3, b3⟩ := b2
  obtain ⟨rx3, rfl, lx3, ex3⟩ := a3
  obtain ⟨x3, rfl, gx3⟩ := rows_of (Proc.v) (fun a => Proc.fit a) (fun q hq => Proc.fits (ex3 q hq).2)
  rw [List.length_map] at lx3
  obtain rfl : w3 = [] := b3
  exact ⟨⟨x1, x2, x3⟩, rfl, ⟨fx1, fx2, ⟨lx3, gx3⟩⟩⟩

theorem fdE_ev [MaxL] {n : Nat} (h : 3 ≤ n) : evalF Tryz.prog cfgE n 129 [.str [107, 105, 108, 108]] [] = some (.lst [[.str [107, 105, 108, 108]]], []) := by
  obtain ⟨k, rfl⟩ : ∃ k, n = k + 3 := ⟨n - 3, by omega⟩
  kernel_rfl
theorem tsE_ev [MaxL] {n : Nat} (h : 5 ≤ n) : evalF Tryz.prog cfgE n 47 [.str [107, 105, 108, 108, 10], .str [10]] [] = some (.str [107, 105, 108, 108], []) := by
  obtain ⟨k, rfl⟩ : ∃ k, n = k + 5 := ⟨n - 5, by omega⟩
  kernel_rfl
theorem fd_con [MaxL] {n : Nat} (hn : 3 ≤ n) : ConOk (evalF Tryz.prog cfgE n) 129 fdCon := by
  intro vs bs K h
  unfold fdCon at h
  split at h
  · exact ⟨_, _, fdE_ev hn, h⟩
  · exact h.elim
theorem ts_con [MaxL] {n : Nat} (hn : 5 ≤ n) : ConOk (evalF Tryz.prog cfgE n) 47 tsCon := by
  intro vs bs K h
  unfold tsCon at h
  split at h
  · exact ⟨_, _, tsE_ev hn, h⟩
  · exact h.elim
theorem ctl_con [MaxL] {n : Nat} (hn : 6 ≤ n) : ConOk (evalF Tryz.prog cfgE n) 48 ctlCon := by
  intro vs bs K h
  unfold ctlCon at h
  split at h
  · rename_i nx gp xs u id
    obtain ⟨l, p, rfl, hr, hp, rfl, hK⟩ := h
    refine run_of (lp := lpOf []) (by omega) (ct := ctOf [(13, findCon), (46, cpdCon), (129, fdCon)]) (fun q hq => ctOf_ok (ctOf_cons (fi_con (by omega)) (ctOf_cons (cpd_con (by omega)) (ctOf_cons (fd_con (by omega)) (ctOf_nil _))))) ?_
    rw [ctl_vc]
    have hlp := hr.2.2.1.lenP
    have hn := hr.2.1
    refine ⟨l, rfl, by omega, hlp, fun hno => absurd hp.2 (hno p hp.1), fun q hq => ?_⟩
    obtain rfl := hr.uniq hp hq
    rw [br_iff]; refine ⟨fun g => by simp only [br_iff, need_iff, andB_t, andB_f, orB_t, orB_f, notB_t, notB_f, leI_t, leI_f, ltI_t, ltI_f, eqI_t, eqI_f, leN_t, leN_f, eqN_t, eqN_f, eqS_t, eqS_f, eqB_t, eqB_f, catOk_t, leC_t] at g; exact absurd rfl g, fun _ => ?_⟩
    refine ⟨l, rfl, by omega, hlp, _, rfl, ?_⟩
    rw [br_iff]; refine ⟨fun g => absurd g (by simp [eqS, strEq]), fun _ => ?_⟩
    rw [br_iff]; refine ⟨fun g => absurd g (by simp [eqS, strEq]), fun _ => ?_⟩
    rw [br_iff]; refine ⟨fun _ => ?_, fun g => by simp only [br_iff, need_iff, andB_t, andB_f, orB_t, orB_f, notB_t, notB_f, leI_t, leI_f, ltI_t, ltI_f, eqI_t, eqI_f, leN_t, leN_f, eqN_t, eqN_f, eqS_t, eqS_f, eqB_t, eqB_f, catOk_t, leC_t] at g; exact absurd rfl g⟩
    rw [need_iff]; refine ⟨exitOk_short hr.2.2.1 hr.1 (by omega), ?_⟩
    rw [br_iff]; refine ⟨fun g => ⟨l, rfl, by omega, hlp, ?_⟩, fun g => ?_⟩
    · have g : exitE (procV l) id [107, 105, 108, 108, 101, 100] ≠ 0 := by simpa [notB, eqI] using g
      rw [exitX_same g] at hK
      exact hK
    · have g : exitE (procV l) id [107, 105, 108, 108, 101, 100] = 0 := by simpa [notB, eqI] using g
      rw [g] at hK
      exact hK
  · exact h.elim
theorem wr_con [MaxL] {n : Nat} (hn : 7 ≤ n) : ConOk (evalF Tryz.prog cfgE n) 14 wrCon := by
  intro vs bs K h
  unfold wrCon at h
  split at h
  · rename_i nx gp xs u k
    obtain ⟨l, id, p, rfl, hr, hp, rfl, rfl, hK⟩ := h
    refine run_of (lp := lpOf []) (by omega) (ct := ctOf [(45, flCon), (46, cpdCon), (47, tsCon), (48, ctlCon)]) (fun q hq => ctOf_ok (ctOf_cons (fl_con (by omega)) (ctOf_cons (cpd_con (by omega)) (ctOf_cons (ts_con (by omega)) (ctOf_cons (ctl_con (by omega)) (ctOf_nil _)))))) ?_
    rw [wr_vc]
    have hlp := hr.2.2.1.lenP
    have hn := hr.2.1
    have hid := hr.2.2.2.1 p hp.1
    have hpi := hp.2
    refine ⟨l, id, p, rfl, by omega, hlp, rfl, by omega, by omega, hp, fun q hq => hr.uniq hp hq, l, rfl, by omega, hlp, l, p, rfl, hr, ⟨hp.1, rfl⟩, rfl, ?_⟩
    rw [hpi]
    rw [br_iff]; refine ⟨fun g => ⟨l, rfl, by omega, hlp, ?_⟩, fun g => ?_⟩
    · have g : exitE (procV l) id [107, 105, 108, 108, 101, 100] ≠ 0 := by simpa [notB, eqI] using g
      rw [exitX_same g] at hK
      exact hK 0 fun h => absurd h g
    · have g : exitE (procV l) id [107, 105, 108, 108, 101, 100] = 0 := by simpa [notB, eqI] using g
      rw [g] at hK
      exact hK 5 fun _ => rfl
  · exact h.elim
def SaysE [MaxL] (f : Nat) (vs : List V) : Prop := ∃ r out, evalF Tryz.prog cfgE 50 f vs [] = some (r, out) ∧ r = .bool true ∧ out = []
theorem kill_says [MaxL] (nx gp : Int) (l : List Proc) (id : Int) (hf : fitP l) : SaysE 4 [.agg [.int .i64 nx, .int .i64 gp, .lst (procV l)], .int .i64 id] := by
  refine run_of (lp := lpOf []) (by omega) (ct := ctOf [(7, okCon), (12, rightCon), (13, findCon), (14, wrCon), (16, smCon)])
    (fun k hk => ctOf_ok (ctOf_cons (okE_con (by omega)) (ctOf_cons (rt_con (by omega)) (ctOf_cons (fi_con (by omega)) (ctOf_cons (wr_con (by omega)) (ctOf_cons (sm_con (by omega)) (ctOf_nil _))))))) ?_
  rw [pk_vc]
  rw [procV_lenL]
  rw [br_iff]; refine ⟨fun _ => ⟨by trivial, by trivial⟩, fun g1 => ?_⟩
  have g1 : l.length ≤ 70 := by simp only [br_iff, need_iff, andB_t, andB_f, orB_t, orB_f, notB_t, notB_f, leI_t, leI_f, ltI_t, ltI_f, eqI_t, eqI_f, leN_t, leN_f, eqN_t, eqN_f, eqS_t, eqS_f, eqB_t, eqB_f, catOk_t, leC_t] at g1; omega
  refine ⟨l, rfl, g1, hf, fun b hb => ?_⟩
  rw [br_iff]; refine ⟨fun _ => ⟨by trivial, by trivial⟩, fun g2 => ?_⟩
  have hr := hb (by simpa [notB] using g2)
  have hlp := hr.2.2.1.lenP
  have hn := hr.2.1
  refine ⟨l, rfl, by omega, hlp, fun _ => ⟨by trivial, by trivial⟩, fun p hp => ?_⟩
  refine ⟨l, id, p, rfl, hr, hp, rfl, rfl, fun n hn5 => ?_⟩
  rw [need_iff]; refine ⟨exitOk_short hr.2.2.1 hr.1 (by omega), ?_⟩
  rw [br_iff]; refine ⟨fun _ => ?_, fun g => absurd g (by simp [eqI])⟩
  have he := exitL2_ok (id := id) (st := [107, 105, 108, 108, 101, 100]) hr.2.2.1
  refine ⟨rfl, rfl, rfl, exitL2 l id [107, 105, 108, 108, 101, 100], exitX_procV _ _ _, by omega, he.1, ?_⟩
  rw [br_iff]; refine ⟨fun _ => ⟨by trivial, by trivial⟩, fun g3 => ?_⟩
  have g3 : exitE (procV l) id [107, 105, 108, 108, 101, 100] = 0 := by simpa [notB, eqI] using g3
  rw [br_iff]; exact ⟨fun _ => ⟨by trivial, by trivial⟩, fun g4 => by simp only [br_iff, need_iff, andB_t, andB_f, orB_t, orB_f, notB_t, notB_f, leI_t, leI_f, ltI_t, ltI_f, eqI_t, eqI_f, leN_t, leN_f, eqN_t, eqN_f, eqS_t, eqS_f, eqB_t, eqB_f, catOk_t, leC_t] at g4; exact absurd (hn5 g3) g4⟩
def pkSh : List Sh := [procsSh, .int .i64]
theorem kill_fits [MaxL] {us : List V} (h : FitsAll pkSh us) : SaysE 4 us := by
  obtain ⟨v0, r0, rfl, h0, v1, r1, rfl, h1, rfl⟩ := h
  obtain ⟨vs, rfl, h0⟩ := h0
  obtain ⟨p, rfl, _, _, _, hp⟩ := Procs.fits h0
  obtain ⟨a, h1, _⟩ := h1
  obtain rfl : v1 = .int .i64 a := by simpa using h1
  exact kill_says p.next p.group p.l a hp
end Go.Proofs.YthhpdnlfhofanaaGreatDoor
