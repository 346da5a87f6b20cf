/- Processes: the evaluator's knobs with Exit as a prim. -/
import Derived.Test.YthhpdnlfhofanaaGreatDoorPkExit
import Derived.Test.YthhpdnlfhofanaaGreatDoorPtBase
import Derived.Test.YthhpdnlfhofanaaGreatDoorEvC
namespace Go.Proofs.YthhpdnlfhofanaaGreatDoor
open Go.RowKit
set_option maxRecDepth 100000
set_option linter.unusedVariables false
set_option linter.unusedSimpArgs false
def keepE : List (Nat × Nat × List Nat) := [(271, 4, [0, 200003, 4, 5]), (205, 11, [0, 4, 200006, 7]), (129, 4, [0, 200003, 4, 7, 8])] ++ keepS
def cfgE [MaxL] : Cfg := { cfgN with keep := keepOf keepE, prim := fun f => bif Nat.beq f 15 then some exitPrim else cfgN.prim f }
theorem cfgE_ok [MaxL] : CfgOk Tryz.prog cfgE where
  prim := fun f g e => by
    have e : (bif Nat.beq f 15 then some exitPrim else cfgN.prim f) = some g := e
    simp only [Bool.cond_eq_ite] at e
    split at e
    · rename_i h
      have h := Nat.eq_of_beq_eq_true h
      subst h; cases e
      exact @exit_prim _
    · exact @CfgOk.prim _ _ cfgN_ok f g e
  self := cfgN_ok.self
  clone := cfgN_ok.clone
  bstr := cfgN_ok.bstr
  dfr := cfgN_ok.dfr
end Go.Proofs.YthhpdnlfhofanaaGreatDoor
namespace Go.Proofs.YthhpdnlfhofanaaGreatDoor
open Go.RowKit
set_option maxRecDepth 100000
set_option linter.unusedVariables false
set_option linter.unusedSimpArgs false
theorem ipE_vc [MaxL] (xs : List (List V)) (id : Int) (I : ipC → ipX → ipX → Nat → Prop) (K : V → List Bk → Prop) : vcF Tryz.prog cfgE (ctOf [(125, inlC Tryz.prog cfgE (ctOf []) 125)]) (lpOf [(2, ipL I)]) 124 [.lst xs, .func 125 [] [.ptr 0 0 0]] [⟨true, true, true, [[.int .i64 id]], 0⟩] K = (
  (∃ m5 : Nat, (((m5 : Nat) < 18446744073709551616)) ∧ (
  I (ipC.mk xs id (lenL xs)) (ipX.mk 0) (ipX.mk 0) m5)) ∧ (
  ∀ x5 : (ipL I).X, ∀ m6 : Nat, (I (ipC.mk xs id (lenL xs)) (ipX.mk 0) x5 m6) → (
  br (ltI x5.1 (lenL xs)) (
    need (andB (leI 0 x5.1) (ltI x5.1 (lenL xs))) (
    need (okRow xs x5.1.toNat 13) (
    ∃ n7 : Int, ∃ n8 : Int, ∃ n9 : Int, ∃ s10 : List UInt8, ∃ s11 : List UInt8, ∃ n12 : Int, ∃ n13 : Int, ∃ n14 : Int, ∃ s15 : List UInt8, ∃ xs16 : List (List V), ∃ s17 : List UInt8, ∃ xs18 : List (List V), ∃ b19 : Bool, ((sub (rowAt xs x5.1) 0 13 : Option (List V)) = some [V.int IntKind.i64 n7, V.int IntKind.i64 n8, V.int IntKind.i64 n9, V.str s10, V.str s11, V.int IntKind.i64 n12, V.int IntKind.i64 n13, V.int IntKind.i64 n14, V.str s15, V.lst xs16, V.str s17, V.lst xs18, V.bool b19]) ∧ (
    br (eqI n7 id) (
      K (V.int IntKind.i64 x5.1) [Bk.mk true true true [[V.int IntKind.i64 id]] 0]) (
      ((ipC.mk xs id (lenL xs) : (ipL I).C) = ipC.mk xs id (lenL xs)) ∧ (
      ∃ m'20 : Nat, (((m'20 : Nat) < m6)) ∧ (
      I (ipC.mk xs id (lenL xs)) (ipX.mk 0) (ipX.mk (addI IntKind.i64 x5.1 1)) m'20))))))) (
    K (V.int IntKind.i64 (-1)) [Bk.mk true true true [[V.int IntKind.i64 id]] 0])))) := by kernel_rfl

theorem ixE_vc [MaxL] (nx gp : Int) (xs : List (List V)) (id : Int) (K : V → List Bk → Prop) : vcF Tryz.prog cfgE (ctOf [(124, ixPCon)]) (lpOf []) 43 [.agg [.int .i64 nx, .int .i64 gp, .lst xs], .int .i64 id] [] K = (
  ∃ l6 : List Proc, ((xs : List (List V)) = procV l6) ∧ (
  (((l6.length : Nat) ≤ 100000)) ∧ (
  ∀ i7 : Int, (isIdxP l6 id i7) → (
  K (V.int IntKind.i64 i7) [])))) := by kernel_rfl

theorem fi_vc [MaxL] (nx gp : Int) (xs : List (List V)) (id : Int) (K : V → List Bk → Prop) : vcF Tryz.prog cfgE (ctOf [(43, ixCon2), (44, inlC Tryz.prog cfgE (ctOf []) 44)]) (lpOf []) 13 [.agg [.int .i64 nx, .int .i64 gp, .lst xs], .int .i64 id] [] K = (
  ∃ l6 : List Proc, ((xs : List (List V)) = procV l6) ∧ (
  (((l6.length : Nat) ≤ 100000)) ∧ (
  ∀ i7 : Int, (isIdxP l6 id i7) → (
  br (ltI i7 0) (
    K (V.tup [V.agg [V.int IntKind.i64 0, V.int IntKind.i64 0, V.int IntKind.i64 0, V.str [], V.str [], V.int IntKind.i64 0, V.int IntKind.i64 0, V.int IntKind.i64 0, V.str [], V.lst [], V.str [], V.lst [], V.bool false], V.bool false]) []) (
    need (andB (leI 0 i7) (ltI i7 (lenL xs))) (
    need (okRow xs i7.toNat 13) (
    ∃ n8 : Int, ∃ n9 : Int, ∃ n10 : Int, ∃ s11 : List UInt8, ∃ s12 : List UInt8, ∃ n13 : Int, ∃ n14 : Int, ∃ n15 : Int, ∃ s16 : List UInt8, ∃ xs17 : List (List V), ∃ s18 : List UInt8, ∃ xs19 : List (List V), ∃ b20 : Bool, ((sub (rowAt xs i7) 0 13 : Option (List V)) = some [V.int IntKind.i64 n8, V.int IntKind.i64 n9, V.int IntKind.i64 n10, V.str s11, V.str s12, V.int IntKind.i64 n13, V.int IntKind.i64 n14, V.int IntKind.i64 n15, V.str s16, V.lst xs17, V.str s18, V.lst xs19, V.bool b20]) ∧ (
    need (headOkP 1 xs17) (
    need (leN (xs17.length * 16) 140737488355328) (
    need (headOkP 2 xs19) (
    need (leN (xs19.length * 24) 140737488355328) (
    K (V.tup [V.agg [V.int IntKind.i64 n8, V.int IntKind.i64 n9, V.int IntKind.i64 n10, V.str s11, V.str s12, V.int IntKind.i64 n13, V.int IntKind.i64 n14, V.int IntKind.i64 n15, V.str s16, V.lst (List.take xs17.length (List.drop 0 xs17)), V.str s18, V.lst (List.take xs19.length (List.drop 0 xs19)), V.bool b20], V.bool true]) [])))))))))))) := by kernel_rfl

structure snC where
  xs : List (List V)
  ys : List (List V)
  cnt : Int
structure snX where
  i : Int
def snSt (c : snC) (x : snX) : St := ⟨[(2, .ptr 0 0 0), (3, .ptr 1 0 0), (26, .int .i64 c.cnt), (27, .int .i64 x.i)], [(0, ⟨true, true, true, c.xs, 0⟩), (1, ⟨true, true, true, c.ys, 0⟩)]⟩
set_option maxHeartbeats 4000000 in
def snUn (s : St) : Option (snC × snX) :=
  match s with
  | ⟨[(q0, .ptr q1 q2 q3), (q4, .ptr q5 q6 q7), (q8, .int .i64 cnt), (q9, .int .i64 i)], [(q10, ⟨true, true, true, xs, q11⟩), (q12, ⟨true, true, true, ys, q13⟩)]⟩ => bif Nat.beq q0 2 && Nat.beq q1 0 && Nat.beq q2 0 && Nat.beq q3 0 && Nat.beq q4 3 && Nat.beq q5 1 && Nat.beq q6 0 && Nat.beq q7 0 && Nat.beq q8 26 && Nat.beq q9 27 && Nat.beq q10 0 && Nat.beq q11 0 && Nat.beq q12 1 && Nat.beq q13 0 then some (⟨xs, ys, cnt⟩, ⟨i⟩) else none
  | _ => none
set_option maxHeartbeats 4000000 in
def snL (inv : snC → snX → snX → Nat → Prop) : LoopS where
  C := snC
  X := snX
  st := snSt
  un := snUn
  ok := by
    intro s c x h
    unfold snUn at h
    split at h
    · simp only [Bool.cond_eq_ite] at h
      split at h
      · rename_i hg
        simp only [Bool.and_eq_true, Nat.beq_eq] at hg
        obtain ⟨⟨⟨⟨⟨⟨⟨⟨⟨⟨⟨⟨⟨rfl, rfl⟩, rfl⟩, rfl⟩, rfl⟩, rfl⟩, rfl⟩, rfl⟩, rfl⟩, rfl⟩, rfl⟩, rfl⟩, rfl⟩, rfl⟩ := hg
        cases h
        rfl
      · cases h
    · cases h
  inv := inv

structure swC where
  xs : List (List V)
  ys : List (List V)
  cnt : Int
structure swX where
  i : Int
def swSt (c : swC) (x : swX) : St := ⟨[(2, .ptr 0 0 0), (3, .ptr 1 0 0), (44, .int .i64 c.cnt), (45, .int .i64 x.i)], [(0, ⟨true, true, true, c.xs, 0⟩), (1, ⟨true, true, true, c.ys, 0⟩)]⟩
set_option maxHeartbeats 4000000 in
def swUn (s : St) : Option (swC × swX) :=
  match s with
  | ⟨[(q0, .ptr q1 q2 q3), (q4, .ptr q5 q6 q7), (q8, .int .i64 cnt), (q9, .int .i64 i)], [(q10, ⟨true, true, true, xs, q11⟩), (q12, ⟨true, true, true, ys, q13⟩)]⟩ => bif Nat.beq q0 2 && Nat.beq q1 0 && Nat.beq q2 0 && Nat.beq q3 0 && Nat.beq q4 3 && Nat.beq q5 1 && Nat.beq q6 0 && Nat.beq q7 0 && Nat.beq q8 44 && Nat.beq q9 45 && Nat.beq q10 0 && Nat.beq q11 0 && Nat.beq q12 1 && Nat.beq q13 0 then some (⟨xs, ys, cnt⟩, ⟨i⟩) else none
  | _ => none
set_option maxHeartbeats 4000000 in
def swL (inv : swC → swX → swX → Nat → Prop) : LoopS where
  C := swC
  X := swX
  st := swSt
  un := swUn
  ok := by
    intro s c x h
    unfold swUn at h
    split at h
    · simp only [Bool.cond_eq_ite] at h
      split at h
      · rename_i hg
        simp only [Bool.and_eq_true, Nat.beq_eq] at hg
        obtain ⟨⟨⟨⟨⟨⟨⟨⟨⟨⟨⟨⟨⟨rfl, rfl⟩, rfl⟩, rfl⟩, rfl⟩, rfl⟩, rfl⟩, rfl⟩, rfl⟩, rfl⟩, rfl⟩, rfl⟩, rfl⟩, rfl⟩ := hg
        cases h
        rfl
      · cases h
    · cases h
  inv := inv

theorem sp_vc [MaxL] (id parent state ns env fds : Int) (user name cwd status : List UInt8) (nt wt : List (List V)) (alone : Bool) (I : snC → snX → snX → Nat → Prop) (J : swC → swX → swX → Nat → Prop) (K : V → List Bk → Prop) : vcF Tryz.prog cfgE (ctOf []) (lpOf [(4, snL I), (10, swL J)]) 53 [.agg [.int .i64 id, .int .i64 parent, .int .i64 state, .str user, .str name, .int .i64 ns, .int .i64 env, .int .i64 fds, .str cwd, .lst nt, .str status, .lst wt, .bool alone], .agg [.int .i64 id, .int .i64 parent, .int .i64 state, .str user, .str name, .int .i64 ns, .int .i64 env, .int .i64 fds, .str cwd, .lst nt, .str status, .lst wt, .bool alone]] [] K = (
  br (notB (eqI (lenL nt) (lenL nt))) (
    K (V.bool false) []) (
    br (notB (eqI (lenL wt) (lenL wt))) (
      K (V.bool false) []) (
      (∃ m17 : Nat, (((m17 : Nat) < 18446744073709551616)) ∧ (
      I (snC.mk [[V.int IntKind.i64 id, V.int IntKind.i64 parent, V.int IntKind.i64 state, V.str user, V.str name, V.int IntKind.i64 ns, V.int IntKind.i64 env, V.int IntKind.i64 fds, V.str cwd, V.lst nt, V.str status, V.lst wt, V.bool alone]] [[V.int IntKind.i64 id, V.int IntKind.i64 parent, V.int IntKind.i64 state, V.str user, V.str name, V.int IntKind.i64 ns, V.int IntKind.i64 env, V.int IntKind.i64 fds, V.str cwd, V.lst nt, V.str status, V.lst wt, V.bool alone]] (lenL nt)) (snX.mk 0) (snX.mk 0) m17)) ∧ (
      ∀ x17 : (snL I).X, ∀ m18 : Nat, (I (snC.mk [[V.int IntKind.i64 id, V.int IntKind.i64 parent, V.int IntKind.i64 state, V.str user, V.str name, V.int IntKind.i64 ns, V.int IntKind.i64 env, V.int IntKind.i64 fds, V.str cwd, V.lst nt, V.str status, V.lst wt, V.bool alone]] [[V.int IntKind.i64 id, V.int IntKind.i64 parent, V.int IntKind.i64 state, V.str user, V.str name, V.int IntKind.i64 ns, V.int IntKind.i64 env, V.int IntKind.i64 fds, V.str cwd, V.lst nt, V.str status, V.lst wt, V.bool alone]] (lenL nt)) (snX.mk 0) x17 m18) → (
      br (ltI x17.1 (lenL nt)) (
        need (andB (leI 0 x17.1) (ltI x17.1 (lenL nt))) (
        need (okRow nt x17.1.toNat 1) (
        ∃ s19 : List UInt8, ((sub (rowAt nt x17.1) 0 1 : Option (List V)) = some [V.str s19]) ∧ (
        need (andB (leI 0 x17.1) (ltI x17.1 (lenL nt))) (
        need (okRow nt x17.1.toNat 1) (
        ∃ s20 : List UInt8, ((sub (rowAt nt x17.1) 0 1 : Option (List V)) = some [V.str s20]) ∧ (
        br (notB (eqS s19 s20)) (
          K (V.bool false) []) (
          ((snC.mk [[V.int IntKind.i64 id, V.int IntKind.i64 parent, V.int IntKind.i64 state, V.str user, V.str name, V.int IntKind.i64 ns, V.int IntKind.i64 env, V.int IntKind.i64 fds, V.str cwd, V.lst nt, V.str status, V.lst wt, V.bool alone]] [[V.int IntKind.i64 id, V.int IntKind.i64 parent, V.int IntKind.i64 state, V.str user, V.str name, V.int IntKind.i64 ns, V.int IntKind.i64 env, V.int IntKind.i64 fds, V.str cwd, V.lst nt, V.str status, V.lst wt, V.bool alone]] (lenL nt) : (snL I).C) = snC.mk [[V.int IntKind.i64 id, V.int IntKind.i64 parent, V.int IntKind.i64 state, V.str user, V.str name, V.int IntKind.i64 ns, V.int IntKind.i64 env, V.int IntKind.i64 fds, V.str cwd, V.lst nt, V.str status, V.lst wt, V.bool alone]] [[V.int IntKind.i64 id, V.int IntKind.i64 parent, V.int IntKind.i64 state, V.str user, V.str name, V.int IntKind.i64 ns, V.int IntKind.i64 env, V.int IntKind.i64 fds, V.str cwd, V.lst nt, V.str status, V.lst wt, V.bool alone]] (lenL nt)) ∧ (
          ∃ m'21 : Nat, (((m'21 : Nat) < m18)) ∧ (
          I (snC.mk [[V.int IntKind.i64 id, V.int IntKind.i64 parent, V.int IntKind.i64 state, V.str user, V.str name, V.int IntKind.i64 ns, V.int IntKind.i64 env, V.int IntKind.i64 fds, V.str cwd, V.lst nt, V.str status, V.lst wt, V.bool alone]] [[V.int IntKind.i64 id, V.int IntKind.i64 parent, V.int IntKind.i64 state, V.str user, V.str name, V.int IntKind.i64 ns, V.int IntKind.i64 env, V.int IntKind.i64 fds, V.str cwd, V.lst nt, V.str status, V.lst wt, V.bool alone]] (lenL nt)) (snX.mk 0) (snX.mk (addI IntKind.i64 x17.1 1)) m'21)))))))))) (
        (∃ m19 : Nat, (((m19 : Nat) < 18446744073709551616)) ∧ (
        J (swC.mk [[V.int IntKind.i64 id, V.int IntKind.i64 parent, V.int IntKind.i64 state, V.str user, V.str name, V.int IntKind.i64 ns, V.int IntKind.i64 env, V.int IntKind.i64 fds, V.str cwd, V.lst nt, V.str status, V.lst wt, V.bool alone]] [[V.int IntKind.i64 id, V.int IntKind.i64 parent, V.int IntKind.i64 state, V.str user, V.str name, V.int IntKind.i64 ns, V.int IntKind.i64 env, V.int IntKind.i64 fds, V.str cwd, V.lst nt, V.str status, V.lst wt, V.bool alone]] (lenL wt)) (swX.mk 0) (swX.mk 0) m19)) ∧ (
        ∀ x19 : (swL J).X, ∀ m20 : Nat, (J (swC.mk [[V.int IntKind.i64 id, V.int IntKind.i64 parent, V.int IntKind.i64 state, V.str user, V.str name, V.int IntKind.i64 ns, V.int IntKind.i64 env, V.int IntKind.i64 fds, V.str cwd, V.lst nt, V.str status, V.lst wt, V.bool alone]] [[V.int IntKind.i64 id, V.int IntKind.i64 parent, V.int IntKind.i64 state, V.str user, V.str name, V.int IntKind.i64 ns, V.int IntKind.i64 env, V.int IntKind.i64 fds, V.str cwd, V.lst nt, V.str status, V.lst wt, V.bool alone]] (lenL wt)) (swX.mk 0) x19 m20) → (
        br (ltI x19.1 (lenL wt)) (
          need (andB (leI 0 x19.1) (ltI x19.1 (lenL wt))) (
          need (okRow wt x19.1.toNat 2) (
          ∃ n21 : Int, ∃ s22 : List UInt8, ((sub (rowAt wt x19.1) 0 2 : Option (List V)) = some [V.int IntKind.i64 n21, V.str s22]) ∧ (
          need (andB (leI 0 x19.1) (ltI x19.1 (lenL wt))) (
          need (okRow wt x19.1.toNat 2) (
          ∃ n23 : Int, ∃ s24 : List UInt8, ((sub (rowAt wt x19.1) 0 2 : Option (List V)) = some [V.int IntKind.i64 n23, V.str s24]) ∧ (
          br (!(decide (n21 = n23) && (strEq s22 s24 && true))) (
            K (V.bool false) []) (
            ((swC.mk [[V.int IntKind.i64 id, V.int IntKind.i64 parent, V.int IntKind.i64 state, V.str user, V.str name, V.int IntKind.i64 ns, V.int IntKind.i64 env, V.int IntKind.i64 fds, V.str cwd, V.lst nt, V.str status, V.lst wt, V.bool alone]] [[V.int IntKind.i64 id, V.int IntKind.i64 parent, V.int IntKind.i64 state, V.str user, V.str name, V.int IntKind.i64 ns, V.int IntKind.i64 env, V.int IntKind.i64 fds, V.str cwd, V.lst nt, V.str status, V.lst wt, V.bool alone]] (lenL wt) : (swL J).C) = swC.mk [[V.int IntKind.i64 id, V.int IntKind.i64 parent, V.int IntKind.i64 state, V.str user, V.str name, V.int IntKind.i64 ns, V.int IntKind.i64 env, V.int IntKind.i64 fds, V.str cwd, V.lst nt, V.str status, V.lst wt, V.bool alone]] [[V.int IntKind.i64 id, V.int IntKind.i64 parent, V.int IntKind.i64 state, V.str user, V.str name, V.int IntKind.i64 ns, V.int IntKind.i64 env, V.int IntKind.i64 fds, V.str cwd, V.lst nt, V.str status, V.lst wt, V.bool alone]] (lenL wt)) ∧ (
            ∃ m'25 : Nat, (((m'25 : Nat) < m20)) ∧ (
            J (swC.mk [[V.int IntKind.i64 id, V.int IntKind.i64 parent, V.int IntKind.i64 state, V.str user, V.str name, V.int IntKind.i64 ns, V.int IntKind.i64 env, V.int IntKind.i64 fds, V.str cwd, V.lst nt, V.str status, V.lst wt, V.bool alone]] [[V.int IntKind.i64 id, V.int IntKind.i64 parent, V.int IntKind.i64 state, V.str user, V.str name, V.int IntKind.i64 ns, V.int IntKind.i64 env, V.int IntKind.i64 fds, V.str cwd, V.lst nt, V.str status, V.lst wt, V.bool alone]] (lenL wt)) (swX.mk 0) (swX.mk (addI IntKind.i64 x19.1 1)) m'25)))))))))) (
          br (eqI ns ns) (
            br (eqI env env) (
              br (eqI fds fds) (
                br (eqB alone alone) (
                  br (eqI id id) (
                    br (eqI parent parent) (
                      br (eqI state state) (
                        br (eqS user user) (
                          br (eqS name name) (
                            br (eqS cwd cwd) (
                              K (V.bool (eqS status status)) []) (
                              K (V.bool false) [])) (
                            K (V.bool false) [])) (
                          K (V.bool false) [])) (
                        K (V.bool false) [])) (
                      K (V.bool false) [])) (
                    K (V.bool false) [])) (
                  K (V.bool false) [])) (
                K (V.bool false) [])) (
              K (V.bool false) [])) (
            K (V.bool false) [])))))))))) := by kernel_rfl

end Go.Proofs.YthhpdnlfhofanaaGreatDoor
namespace Go.Proofs.YthhpdnlfhofanaaGreatDoor
open Go.RowKit
set_option maxRecDepth 100000
set_option linter.unusedVariables false
set_option linter.unusedSimpArgs false
theorem ipE_con [MaxL] {n : Nat} (hn : 2 ≤ n) : ConOk (evalF Tryz.prog cfgE n) 124 ixPCon := by
  intro vs bs K h
  unfold ixPCon at h
  split at h
  · rename_i xs id
    obtain ⟨l, rfl, hb, hK⟩ := h
    refine run_of (lp := lpOf [(2, ipL fun _ _ x m => ∃ j : Nat, x.i = (j : Int) ∧ j + m = l.length ∧ ∀ y ∈ l.take j, y.id ≠ id)]) (by omega) (ct := ctOf [(125, inlC Tryz.prog cfgE (ctOf []) 125)]) (fun q hq => ctOf_ok (ctOf_cons (inl_ok (by omega) fun _ _ => noCt_ok _) (ctOf_nil _))) ?_
    rw [ipE_vc]
    simp only [procV_lenL]
    refine ⟨⟨l.length, by omega, 0, rfl, by omega, by simp⟩, ?_⟩
    rintro ⟨i⟩ m' ⟨j, rfl, hj, hp⟩
    dsimp only
    rw [br_iff]
    refine ⟨fun hlt => ?_, fun hge => ?_⟩
    · have hlt : j < l.length := by simp only [br_iff, need_iff, andB_t, andB_f, orB_t, orB_f, notB_t, notB_f, leI_t, leI_f, ltI_t, ltI_f, eqI_t, eqI_f, leN_t, leN_f, eqN_t, eqN_f, eqS_t, eqS_f, eqB_t, eqB_f, catOk_t, leC_t] at hlt; omega
      obtain ⟨x, hx⟩ : ∃ x, l[j]? = some x := ⟨_, List.getElem?_eq_getElem (by omega)⟩
      rw [need_iff]; refine ⟨by simp only [br_iff, need_iff, andB_t, andB_f, orB_t, orB_f, notB_t, notB_f, leI_t, leI_f, ltI_t, ltI_f, eqI_t, eqI_f, leN_t, leN_f, eqN_t, eqN_f, eqS_t, eqS_f, eqB_t, eqB_f, catOk_t, leC_t]; omega, ?_⟩
      rw [need_iff]; refine ⟨by simpa using procV_ok (l := l) (i := j) (by omega), ?_⟩
      refine ⟨x.id, x.parent, x.state, x.user, x.name, x.ns, x.env, x.fds, x.cwd, strV x.notes, x.status, waitV x.waits, x.alone, by rw [procV_row hx]; rfl, ?_⟩
      rw [br_iff]
      refine ⟨fun g => hK _ (.inr ⟨j, rfl, hp, x, hx, by simpa only [br_iff, need_iff, andB_t, andB_f, orB_t, orB_f, notB_t, notB_f, leI_t, leI_f, ltI_t, ltI_f, eqI_t, eqI_f, leN_t, leN_f, eqN_t, eqN_f, eqS_t, eqS_f, eqB_t, eqB_f, catOk_t, leC_t] using g⟩), fun g => ⟨by trivial, m' - 1, by omega, j + 1, by rw [addI_i64 (by omega) (by omega)]; omega, by omega, noP_snoc hp hx (by simpa only [br_iff, need_iff, andB_t, andB_f, orB_t, orB_f, notB_t, notB_f, leI_t, leI_f, ltI_t, ltI_f, eqI_t, eqI_f, leN_t, leN_f, eqN_t, eqN_f, eqS_t, eqS_f, eqB_t, eqB_f, catOk_t, leC_t] using g)⟩⟩
    · have : j = l.length := by simp only [br_iff, need_iff, andB_t, andB_f, orB_t, orB_f, notB_t, notB_f, leI_t, leI_f, ltI_t, ltI_f, eqI_t, eqI_f, leN_t, leN_f, eqN_t, eqN_f, eqS_t, eqS_f, eqB_t, eqB_f, catOk_t, leC_t] at hge; omega
      subst this
      exact hK _ (.inl ⟨rfl, fun y hy => hp y (by simpa using hy)⟩)
  · exact h.elim
theorem ixE_con [MaxL] {n : Nat} (hn : 3 ≤ n) : ConOk (evalF Tryz.prog cfgE n) 43 ixCon2 := by
  intro vs bs K h
  unfold ixCon2 at h
  split at h
  · obtain ⟨l, rfl, hb, hK⟩ := h
    refine run_of (lp := lpOf []) (by omega) (ct := ctOf [(124, ixPCon)]) (fun q hq => ctOf_ok (ctOf_cons (ipE_con (by omega)) (ctOf_nil _))) ?_
    rw [ixE_vc]
    exact ⟨l, rfl, hb, hK⟩
  · exact h.elim
/-- A process that is none. -/
def noP : Proc := ⟨0, 0, 0, [], [], 0, 0, 0, [], [], [], [], false⟩
def lenP (l : List Proc) : Prop := ∀ p ∈ l, p.notes.length ≤ 100000 ∧ p.waits.length ≤ 100000
def noneP (l : List Proc) (id : Int) : Prop := ∀ p ∈ l, p.id ≠ id
def isP (l : List Proc) (id : Int) (p : Proc) : Prop := p ∈ l ∧ p.id = id
def findCon : Con := fun vs bs K => match vs, bs with
  | [.agg [.int .i64 nx, .int .i64 gp, .lst xs], .int .i64 id], [] => ∃ l : List Proc, xs = procV l ∧ l.length ≤ 100000 ∧ lenP l ∧ (noneP l id → K (.tup [.agg noP.v, .bool false]) []) ∧ (∀ p, isP l id p → K (.tup [.agg p.v, .bool true]) [])
  | _, _ => False
theorem fi_con [MaxL] {n : Nat} (hn : 4 ≤ n) : ConOk (evalF Tryz.prog cfgE n) 13 findCon := by
  intro vs bs K h
  unfold findCon at h
  split at h
  · obtain ⟨l, rfl, hb, hl, hno, hyes⟩ := h
    refine run_of (lp := lpOf []) (by omega) (ct := ctOf [(43, ixCon2), (44, inlC Tryz.prog cfgE (ctOf []) 44)]) (fun q hq => ctOf_ok (ctOf_cons (ixE_con (by omega)) (ctOf_cons (inl_ok (by omega) fun _ _ => noCt_ok _) (ctOf_nil _)))) ?_
    rw [fi_vc]
    refine ⟨l, rfl, hb, fun i hi => ?_⟩
    rw [br_iff]
    refine ⟨fun g => ?_, fun g => ?_⟩
    · simp only [br_iff, need_iff, andB_t, andB_f, orB_t, orB_f, notB_t, notB_f, leI_t, leI_f, ltI_t, ltI_f, eqI_t, eqI_f, leN_t, leN_f, eqN_t, eqN_f, eqS_t, eqS_f, eqB_t, eqB_f, catOk_t, leC_t] at g
      rcases hi with ⟨_, h⟩ | ⟨k, rfl, _⟩
      · exact hno h
      · omega
    · simp only [br_iff, need_iff, andB_t, andB_f, orB_t, orB_f, notB_t, notB_f, leI_t, leI_f, ltI_t, ltI_f, eqI_t, eqI_f, leN_t, leN_f, eqN_t, eqN_f, eqS_t, eqS_f, eqB_t, eqB_f, catOk_t, leC_t] at g
      rcases hi with ⟨rfl, _⟩ | ⟨k, rfl, _, p, hp, hid⟩
      · omega
      have hk : k < l.length := (List.getElem?_eq_some_iff.1 hp).1
      have hm := List.mem_of_getElem? hp
      have hlp := hl p hm
      simp only [procV_lenL]
      rw [need_iff]; refine ⟨by simp only [br_iff, need_iff, andB_t, andB_f, orB_t, orB_f, notB_t, notB_f, leI_t, leI_f, ltI_t, ltI_f, eqI_t, eqI_f, leN_t, leN_f, eqN_t, eqN_f, eqS_t, eqS_f, eqB_t, eqB_f, catOk_t, leC_t]; omega, ?_⟩
      rw [need_iff]; refine ⟨by simpa using procV_ok (l := l) (i := k) (by omega), ?_⟩
      refine ⟨p.id, p.parent, p.state, p.user, p.name, p.ns, p.env, p.fds, p.cwd, strV p.notes, p.status, waitV p.waits, p.alone, by rw [procV_row hp]; rfl, ?_⟩
      have e1 : (strV p.notes).length = p.notes.length := by simp [strV]
      have e2 : (waitV p.waits).length = p.waits.length := waitV_len _
      rw [need_iff]; refine ⟨by cases p.notes <;> rfl, ?_⟩
      rw [need_iff]; refine ⟨by rw [e1]; simp only [br_iff, need_iff, andB_t, andB_f, orB_t, orB_f, notB_t, notB_f, leI_t, leI_f, ltI_t, ltI_f, eqI_t, eqI_f, leN_t, leN_f, eqN_t, eqN_f, eqS_t, eqS_f, eqB_t, eqB_f, catOk_t, leC_t]; omega, ?_⟩
      rw [need_iff]; refine ⟨waitV_head _, ?_⟩
      rw [need_iff]; refine ⟨by rw [e2]; simp only [br_iff, need_iff, andB_t, andB_f, orB_t, orB_f, notB_t, notB_f, leI_t, leI_f, ltI_t, ltI_f, eqI_t, eqI_f, leN_t, leN_f, eqN_t, eqN_f, eqS_t, eqS_f, eqB_t, eqB_f, catOk_t, leC_t]; omega, ?_⟩
      simp only [List.drop_zero, List.take_length]
      exact hyes p ⟨hm, hid⟩
  · exact h.elim
end Go.Proofs.YthhpdnlfhofanaaGreatDoor
namespace Go.Proofs.YthhpdnlfhofanaaGreatDoor
open Go.RowKit
set_option maxRecDepth 100000
set_option linter.unusedVariables false
set_option linter.unusedSimpArgs false
def spCon : Con := fun vs bs K => match vs, bs with
  | [.agg r, .agg s], [] => ∃ p : Proc, r = p.v ∧ s = p.v ∧ p.notes.length ≤ 100000 ∧ p.waits.length ≤ 100000 ∧ K (.bool true) []
  | _, _ => False
theorem strV_lenL' (l : List (List UInt8)) : lenL (strV l) = (l.length : Int) := by simp [lenL, strV]
theorem sp_con [MaxL] {n : Nat} (hn : 1 ≤ n) : ConOk (evalF Tryz.prog cfgE n) 53 spCon := by
  intro vs bs K h
  unfold spCon at h
  split at h
  · obtain ⟨p, rfl, rfl, h1, h2, hK⟩ := h
    dsimp only [Proc.v]
    refine run_of (lp := lpOf [(4, snL fun _ _ x m => ∃ j : Nat, x.i = (j : Int) ∧ j + m = p.notes.length), (10, swL fun _ _ x m => ∃ j : Nat, x.i = (j : Int) ∧ j + m = p.waits.length)]) hn (fun k _ => noCt_ok _) ?_
    rw [sp_vc]
    simp only [strV_lenL', waitV_lenL]
    rw [br_iff]; refine ⟨fun g => absurd g (by simp [notB, eqI]), fun _ => ?_⟩
    rw [br_iff]; refine ⟨fun g => absurd g (by simp [notB, eqI]), fun _ => ?_⟩
    refine ⟨⟨p.notes.length, by omega, 0, rfl, by omega⟩, ?_⟩
    rintro ⟨i⟩ m ⟨j, rfl, hj⟩
    dsimp only
    rw [br_iff]
    refine ⟨fun hlt => ?_, fun _ => ?_⟩
    · have hlt : j < p.notes.length := by simp only [br_iff, need_iff, andB_t, andB_f, orB_t, orB_f, notB_t, notB_f, leI_t, leI_f, ltI_t, ltI_f, eqI_t, eqI_f, leN_t, leN_f, eqN_t, eqN_f, eqS_t, eqS_f, eqB_t, eqB_f, catOk_t, leC_t] at hlt; omega
      obtain ⟨x, hx⟩ : ∃ x, p.notes[j]? = some x := ⟨_, List.getElem?_eq_getElem hlt⟩
      have hin : andB (leI 0 (j : Int)) (ltI (j : Int) (p.notes.length : Int)) = true := by simp only [br_iff, need_iff, andB_t, andB_f, orB_t, orB_f, notB_t, notB_f, leI_t, leI_f, ltI_t, ltI_f, eqI_t, eqI_f, leN_t, leN_f, eqN_t, eqN_f, eqS_t, eqS_f, eqB_t, eqB_f, catOk_t, leC_t]; omega
      have hok : okRow (strV p.notes) (j : Int).toNat 1 = true := by simp [okRow, strV, hx]
      have hrow : sub (rowAt (strV p.notes) (j : Int)) 0 1 = some [V.str x] := by simp [rowAt, strV, List.getD, hx]; rfl
      rw [need_iff]; refine ⟨hin, ?_⟩
      rw [need_iff]; refine ⟨hok, x, hrow, ?_⟩
      rw [need_iff]; refine ⟨hin, ?_⟩
      rw [need_iff]; refine ⟨hok, x, hrow, ?_⟩
      rw [br_iff]; exact ⟨fun g => absurd g (by simp [notB, eqS, strEq]), fun _ => ⟨by trivial, m - 1, by omega, j + 1, by rw [addI_i64 (by omega) (by omega)]; omega, by omega⟩⟩
    · refine ⟨⟨p.waits.length, by omega, 0, rfl, by omega⟩, ?_⟩
      rintro ⟨i⟩ m ⟨j, rfl, hj⟩
      dsimp only
      rw [br_iff]
      refine ⟨fun hlt => ?_, fun _ => ?_⟩
      · have hlt : j < p.waits.length := by simp only [br_iff, need_iff, andB_t, andB_f, orB_t, orB_f, notB_t, notB_f, leI_t, leI_f, ltI_t, ltI_f, eqI_t, eqI_f, leN_t, leN_f, eqN_t, eqN_f, eqS_t, eqS_f, eqB_t, eqB_f, catOk_t, leC_t] at hlt; omega
        obtain ⟨x, hx⟩ : ∃ x, p.waits[j]? = some x := ⟨_, List.getElem?_eq_getElem hlt⟩
        have hin : andB (leI 0 (j : Int)) (ltI (j : Int) (p.waits.length : Int)) = true := by simp only [br_iff, need_iff, andB_t, andB_f, orB_t, orB_f, notB_t, notB_f, leI_t, leI_f, ltI_t, ltI_f, eqI_t, eqI_f, leN_t, leN_f, eqN_t, eqN_f, eqS_t, eqS_f, eqB_t, eqB_f, catOk_t, leC_t]; omega
        have hok : okRow (waitV p.waits) (j : Int).toNat 2 = true := by simpa using waitV_ok (l := p.waits) (i := j) hlt
        have hrow : sub (rowAt (waitV p.waits) (j : Int)) 0 2 = some [V.int .i64 x.id, V.str x.status] := by rw [waitV_row hx]; rfl
        rw [need_iff]; refine ⟨hin, ?_⟩
        rw [need_iff]; refine ⟨hok, x.id, x.status, hrow, ?_⟩
        rw [need_iff]; refine ⟨hin, ?_⟩
        rw [need_iff]; refine ⟨hok, x.id, x.status, hrow, ?_⟩
        rw [br_iff]; exact ⟨fun g => absurd g (by simp [strEq]), fun _ => ⟨by trivial, m - 1, by omega, j + 1, by rw [addI_i64 (by omega) (by omega)]; omega, by omega⟩⟩
      · have eI : ∀ a : Int, eqI a a = true := fun a => by simp [eqI]
        have eS : ∀ a : List UInt8, eqS a a = true := fun a => by simp [eqS, strEq]
        have eB : ∀ a : Bool, eqB a a = true := fun a => by simp [eqB]
        simp only [eI, eS, eB, br_iff]
        simpa using hK
  · exact h.elim
end Go.Proofs.YthhpdnlfhofanaaGreatDoor
namespace Go.Proofs.YthhpdnlfhofanaaGreatDoor
open Go.RowKit
set_option maxRecDepth 100000
set_option linter.unusedVariables false
set_option linter.unusedSimpArgs false
structure smC where
  xs : List (List V)
  ys : List (List V)
  cnt : Int
structure smX where
  i : Int
def smSt (c : smC) (x : smX) : St := ⟨[(2, .ptr 0 0 0), (3, .ptr 1 0 0), (29, .int .i64 c.cnt), (30, .int .i64 x.i)], [(0, ⟨true, true, true, c.xs, 0⟩), (1, ⟨true, true, true, c.ys, 0⟩)]⟩
set_option maxHeartbeats 4000000 in
def smUn (s : St) : Option (smC × smX) :=
  match s with
  | ⟨[(q0, .ptr q1 q2 q3), (q4, .ptr q5 q6 q7), (q8, .int .i64 cnt), (q9, .int .i64 i)], [(q10, ⟨true, true, true, xs, q11⟩), (q12, ⟨true, true, true, ys, q13⟩)]⟩ => bif Nat.beq q0 2 && Nat.beq q1 0 && Nat.beq q2 0 && Nat.beq q3 0 && Nat.beq q4 3 && Nat.beq q5 1 && Nat.beq q6 0 && Nat.beq q7 0 && Nat.beq q8 29 && Nat.beq q9 30 && Nat.beq q10 0 && Nat.beq q11 0 && Nat.beq q12 1 && Nat.beq q13 0 then some (⟨xs, ys, cnt⟩, ⟨i⟩) else none
  | _ => none
set_option maxHeartbeats 4000000 in
def smL (inv : smC → smX → smX → Nat → Prop) : LoopS where
  C := smC
  X := smX
  st := smSt
  un := smUn
  ok := by
    intro s c x h
    unfold smUn at h
    split at h
    · simp only [Bool.cond_eq_ite] at h
      split at h
      · rename_i hg
        simp only [Bool.and_eq_true, Nat.beq_eq] at hg
        obtain ⟨⟨⟨⟨⟨⟨⟨⟨⟨⟨⟨⟨⟨rfl, rfl⟩, rfl⟩, rfl⟩, rfl⟩, rfl⟩, rfl⟩, rfl⟩, rfl⟩, rfl⟩, rfl⟩, rfl⟩, rfl⟩, rfl⟩ := hg
        cases h
        rfl
      · cases h
    · cases h
  inv := inv

theorem sm_vc [MaxL] (nx gp : Int) (xs : List (List V)) (I : smC → smX → smX → Nat → Prop) (K : V → List Bk → Prop) : vcF Tryz.prog cfgE (ctOf [(53, spCon)]) (lpOf [(4, smL I)]) 16 [.agg [.int .i64 nx, .int .i64 gp, .lst xs], .agg [.int .i64 nx, .int .i64 gp, .lst xs]] [] K = (
  br (notB (eqI nx nx)) (
    K (V.bool false) []) (
    br (notB (eqI gp gp)) (
      K (V.bool false) []) (
      br (notB (eqI (lenL xs) (lenL xs))) (
        K (V.bool false) []) (
        (∃ m6 : Nat, (((m6 : Nat) < 18446744073709551616)) ∧ (
        I (smC.mk [[V.int IntKind.i64 nx, V.int IntKind.i64 gp, V.lst xs]] [[V.int IntKind.i64 nx, V.int IntKind.i64 gp, V.lst xs]] (lenL xs)) (smX.mk 0) (smX.mk 0) m6)) ∧ (
        ∀ x6 : (smL I).X, ∀ m7 : Nat, (I (smC.mk [[V.int IntKind.i64 nx, V.int IntKind.i64 gp, V.lst xs]] [[V.int IntKind.i64 nx, V.int IntKind.i64 gp, V.lst xs]] (lenL xs)) (smX.mk 0) x6 m7) → (
        br (ltI x6.1 (lenL xs)) (
          need (andB (leI 0 x6.1) (ltI x6.1 (lenL xs))) (
          need (okRow xs x6.1.toNat 13) (
          ∃ n8 : Int, ∃ n9 : Int, ∃ n10 : Int, ∃ s11 : List UInt8, ∃ s12 : List UInt8, ∃ n13 : Int, ∃ n14 : Int, ∃ n15 : Int, ∃ s16 : List UInt8, ∃ xs17 : List (List V), ∃ s18 : List UInt8, ∃ xs19 : List (List V), ∃ b20 : Bool, ((sub (rowAt xs x6.1) 0 13 : Option (List V)) = some [V.int IntKind.i64 n8, V.int IntKind.i64 n9, V.int IntKind.i64 n10, V.str s11, V.str s12, V.int IntKind.i64 n13, V.int IntKind.i64 n14, V.int IntKind.i64 n15, V.str s16, V.lst xs17, V.str s18, V.lst xs19, V.bool b20]) ∧ (
          need (andB (leI 0 x6.1) (ltI x6.1 (lenL xs))) (
          need (okRow xs x6.1.toNat 13) (
          ∃ n21 : Int, ∃ n22 : Int, ∃ n23 : Int, ∃ s24 : List UInt8, ∃ s25 : List UInt8, ∃ n26 : Int, ∃ n27 : Int, ∃ n28 : Int, ∃ s29 : List UInt8, ∃ xs30 : List (List V), ∃ s31 : List UInt8, ∃ xs32 : List (List V), ∃ b33 : Bool, ((sub (rowAt xs x6.1) 0 13 : Option (List V)) = some [V.int IntKind.i64 n21, V.int IntKind.i64 n22, V.int IntKind.i64 n23, V.str s24, V.str s25, V.int IntKind.i64 n26, V.int IntKind.i64 n27, V.int IntKind.i64 n28, V.str s29, V.lst xs30, V.str s31, V.lst xs32, V.bool b33]) ∧ (
          ∃ p34 : Proc, (([V.int IntKind.i64 n8, V.int IntKind.i64 n9, V.int IntKind.i64 n10, V.str s11, V.str s12, V.int IntKind.i64 n13, V.int IntKind.i64 n14, V.int IntKind.i64 n15, V.str s16, V.lst xs17, V.str s18, V.lst xs19, V.bool b20] : List V) = [V.int IntKind.i64 p34.1, V.int IntKind.i64 p34.2, V.int IntKind.i64 p34.3, V.str p34.4, V.str p34.5, V.int IntKind.i64 p34.6, V.int IntKind.i64 p34.7, V.int IntKind.i64 p34.8, V.str p34.9, V.lst (strV p34.10), V.str p34.11, V.lst (waitV p34.12), V.bool p34.13]) ∧ (
          (([V.int IntKind.i64 n21, V.int IntKind.i64 n22, V.int IntKind.i64 n23, V.str s24, V.str s25, V.int IntKind.i64 n26, V.int IntKind.i64 n27, V.int IntKind.i64 n28, V.str s29, V.lst xs30, V.str s31, V.lst xs32, V.bool b33] : List V) = [V.int IntKind.i64 p34.1, V.int IntKind.i64 p34.2, V.int IntKind.i64 p34.3, V.str p34.4, V.str p34.5, V.int IntKind.i64 p34.6, V.int IntKind.i64 p34.7, V.int IntKind.i64 p34.8, V.str p34.9, V.lst (strV p34.10), V.str p34.11, V.lst (waitV p34.12), V.bool p34.13]) ∧ (
          (((p34.10.length : Nat) ≤ 100000)) ∧ (
          (((p34.12.length : Nat) ≤ 100000)) ∧ (
          ((smC.mk [[V.int IntKind.i64 nx, V.int IntKind.i64 gp, V.lst xs]] [[V.int IntKind.i64 nx, V.int IntKind.i64 gp, V.lst xs]] (lenL xs) : (smL I).C) = smC.mk [[V.int IntKind.i64 nx, V.int IntKind.i64 gp, V.lst xs]] [[V.int IntKind.i64 nx, V.int IntKind.i64 gp, V.lst xs]] (lenL xs)) ∧ (
          ∃ m'35 : Nat, (((m'35 : Nat) < m7)) ∧ (
          I (smC.mk [[V.int IntKind.i64 nx, V.int IntKind.i64 gp, V.lst xs]] [[V.int IntKind.i64 nx, V.int IntKind.i64 gp, V.lst xs]] (lenL xs)) (smX.mk 0) (smX.mk (addI IntKind.i64 x6.1 1)) m'35))))))))))))) (
          K (V.bool true) []))))))) := by kernel_rfl

end Go.Proofs.YthhpdnlfhofanaaGreatDoor
namespace Go.Proofs.YthhpdnlfhofanaaGreatDoor
open Go.RowKit
set_option maxRecDepth 100000
set_option linter.unusedVariables false
set_option linter.unusedSimpArgs false
def smCon : Con := fun vs bs K => match vs, bs with
  | [.agg [.int .i64 nx, .int .i64 gp, .lst xs], .agg [.int .i64 nx2, .int .i64 gp2, .lst ys]], [] => nx2 = nx ∧ gp2 = gp ∧ ys = xs ∧ ∃ l : List Proc, xs = procV l ∧ l.length ≤ 100000 ∧ lenP l ∧ K (.bool true) []
  | _, _ => False
theorem sm_con [MaxL] {n : Nat} (hn : 2 ≤ n) : ConOk (evalF Tryz.prog cfgE n) 16 smCon := by
  intro vs bs K h
  unfold smCon at h
  split at h
  · obtain ⟨rfl, rfl, rfl, l, rfl, hb, hl, hK⟩ := h
    refine run_of (lp := lpOf [(4, smL fun _ _ x m => ∃ j : Nat, x.i = (j : Int) ∧ j + m = l.length)]) (by omega) (ct := ctOf [(53, spCon)]) (fun q hq => ctOf_ok (ctOf_cons (sp_con (by omega)) (ctOf_nil _))) ?_
    rw [sm_vc]
    simp only [procV_lenL]
    rw [br_iff]; refine ⟨fun g => absurd g (by simp [notB, eqI]), fun _ => ?_⟩
    rw [br_iff]; refine ⟨fun g => absurd g (by simp [notB, eqI]), fun _ => ?_⟩
    rw [br_iff]; refine ⟨fun g => absurd g (by simp [notB, eqI]), fun _ => ?_⟩
    refine ⟨⟨l.length, by omega, 0, rfl, by omega⟩, ?_⟩
    rintro ⟨i⟩ m ⟨j, rfl, hj⟩
    dsimp only
    rw [br_iff]
    refine ⟨fun hlt => ?_, fun _ => hK⟩
    have hlt : j < l.length := by simp only [br_iff, need_iff, andB_t, andB_f, orB_t, orB_f, notB_t, notB_f, leI_t, leI_f, ltI_t, ltI_f, eqI_t, eqI_f, leN_t, leN_f, eqN_t, eqN_f, eqS_t, eqS_f, eqB_t, eqB_f, catOk_t, leC_t] at hlt; omega
    obtain ⟨p, hp⟩ : ∃ p, l[j]? = some p := ⟨_, List.getElem?_eq_getElem hlt⟩
    have hlp := hl p (List.mem_of_getElem? hp)
    have hin : andB (leI 0 (j : Int)) (ltI (j : Int) (l.length : Int)) = true := by simp only [br_iff, need_iff, andB_t, andB_f, orB_t, orB_f, notB_t, notB_f, leI_t, leI_f, ltI_t, ltI_f, eqI_t, eqI_f, leN_t, leN_f, eqN_t, eqN_f, eqS_t, eqS_f, eqB_t, eqB_f, catOk_t, leC_t]; omega
    have hok : okRow (procV l) (j : Int).toNat 13 = true := by simpa using procV_ok (l := l) (i := j) hlt
    rw [need_iff]; refine ⟨hin, ?_⟩
    rw [need_iff]; refine ⟨hok, ?_⟩
    refine ⟨p.id, p.parent, p.state, p.user, p.name, p.ns, p.env, p.fds, p.cwd, strV p.notes, p.status, waitV p.waits, p.alone, by rw [procV_row hp]; rfl, ?_⟩
    rw [need_iff]; refine ⟨hin, ?_⟩
    rw [need_iff]; refine ⟨hok, ?_⟩
    refine ⟨p.id, p.parent, p.state, p.user, p.name, p.ns, p.env, p.fds, p.cwd, strV p.notes, p.status, waitV p.waits, p.alone, by rw [procV_row hp]; rfl, ?_⟩
    refine ⟨p, rfl, rfl, hlp.1, hlp.2, ?_⟩
    exact ⟨by trivial, m - 1, by omega, j + 1, by rw [addI_i64 (by omega) (by omega)]; omega, by omega⟩
  · exact h.elim
end Go.Proofs.YthhpdnlfhofanaaGreatDoor
namespace Go.Proofs.YthhpdnlfhofanaaGreatDoor
open Go.RowKit
set_option maxRecDepth 100000
set_option linter.unusedVariables false
set_option linter.unusedSimpArgs false
structure cplC where
  nx : Int
  gp : Int
  z0 : Int
  z1 : Int
  n : Nat
  m : Nat
  cnt : Int
structure cplX where
  ys : List (List V)
  i : Int
def cplSt (c : cplC) (x : cplX) : St := ⟨[(2, .ptr 0 0 0), (3, .ptr 1 0 0), (12, .int .i64 c.cnt), (13, .int .i64 x.i)], [(0, ⟨true, true, true, [[.int .i64 c.z0, .int .i64 c.z1, .nils]], 0⟩), (1, ⟨true, true, true, [[.int .i64 c.nx, .int .i64 c.gp, .ref 2 0 c.n c.m]], 0⟩), (2, ⟨true, false, true, x.ys, 0⟩)]⟩
set_option maxHeartbeats 4000000 in
def cplUn (s : St) : Option (cplC × cplX) :=
  match s with
  | ⟨[(q0, .ptr q1 q2 q3), (q4, .ptr q5 q6 q7), (q8, .int .i64 cnt), (q9, .int .i64 i)], [(q10, ⟨true, true, true, [[.int .i64 z0, .int .i64 z1, .nils]], q11⟩), (q12, ⟨true, true, true, [[.int .i64 nx, .int .i64 gp, .ref q13 q14 n m]], q15⟩), (q16, ⟨true, false, true, ys, q17⟩)]⟩ => bif Nat.beq q0 2 && Nat.beq q1 0 && Nat.beq q2 0 && Nat.beq q3 0 && Nat.beq q4 3 && Nat.beq q5 1 && Nat.beq q6 0 && Nat.beq q7 0 && Nat.beq q8 12 && Nat.beq q9 13 && Nat.beq q10 0 && Nat.beq q11 0 && Nat.beq q12 1 && Nat.beq q13 2 && Nat.beq q14 0 && Nat.beq q15 0 && Nat.beq q16 2 && Nat.beq q17 0 then some (⟨nx, gp, z0, z1, n, m, cnt⟩, ⟨ys, i⟩) else none
  | _ => none
set_option maxHeartbeats 4000000 in
def cplL (inv : cplC → cplX → cplX → Nat → Prop) : LoopS where
  C := cplC
  X := cplX
  st := cplSt
  un := cplUn
  ok := by
    intro s c x h
    unfold cplUn at h
    split at h
    · simp only [Bool.cond_eq_ite] at h
      split at h
      · rename_i hg
        simp only [Bool.and_eq_true, Nat.beq_eq] at hg
        obtain ⟨⟨⟨⟨⟨⟨⟨⟨⟨⟨⟨⟨⟨⟨⟨⟨⟨rfl, rfl⟩, rfl⟩, rfl⟩, rfl⟩, rfl⟩, rfl⟩, rfl⟩, rfl⟩, rfl⟩, rfl⟩, rfl⟩, rfl⟩, rfl⟩, rfl⟩, rfl⟩, rfl⟩, rfl⟩ := hg
        cases h
        rfl
      · cases h
    · cases h
  inv := inv

theorem cp_vc [MaxL] (nx gp : Int) (xs : List (List V)) (I : cplC → cplX → cplX → Nat → Prop) (K : V → List Bk → Prop) : vcF Tryz.prog cfgE (ctOf []) (lpOf [(4, cplL I)]) 46 [.agg [.int .i64 nx, .int .i64 gp, .lst xs]] [] K = (
  need (headOkP 13 xs) (
  need (leN (xs.length * 168) 140737488355328) (
  (∃ m6 : Nat, (((m6 : Nat) < 18446744073709551616)) ∧ (
  I (cplC.mk nx gp 0 0 xs.length xs.length (Int.ofNat xs.length)) (cplX.mk xs 0) (cplX.mk xs 0) m6)) ∧ (
  ∀ x6 : (cplL I).X, ∀ m7 : Nat, (I (cplC.mk nx gp 0 0 xs.length xs.length (Int.ofNat xs.length)) (cplX.mk xs 0) x6 m7) → (
  br (ltI x6.2 (Int.ofNat xs.length)) (
    need (andB (leI 0 x6.2) (ltI x6.2 (Int.ofNat xs.length))) (
    need (okRow x6.1 (0 + x6.2.toNat) 13) (
    ∃ xs8 : List (List V), ((partAt x6.1 (0 + x6.2.toNat) 9 1 : Option (List V)) = some [V.lst xs8]) ∧ (
    need (headOkP 1 xs8) (
    need (leN (xs8.length * 16) 140737488355328) (
    need (andB (leI 0 x6.2) (ltI x6.2 (Int.ofNat xs.length))) (
    need (okRow x6.1 (0 + x6.2.toNat) 13) (
    ∃ xs9 : List (List V), ((putAt x6.1 (0 + x6.2.toNat) 9 [V.lst (List.take xs8.length (List.drop 0 xs8))] : Option (List (List V))) = some xs9) ∧ (
    need (andB (leI 0 x6.2) (ltI x6.2 (Int.ofNat xs.length))) (
    need (okRow xs9 (0 + x6.2.toNat) 13) (
    ∃ xs10 : List (List V), ((partAt xs9 (0 + x6.2.toNat) 11 1 : Option (List V)) = some [V.lst xs10]) ∧ (
    need (headOkP 2 xs10) (
    need (leN (xs10.length * 24) 140737488355328) (
    need (andB (leI 0 x6.2) (ltI x6.2 (Int.ofNat xs.length))) (
    need (okRow xs9 (0 + x6.2.toNat) 13) (
    ∃ xs11 : List (List V), ((putAt xs9 (0 + x6.2.toNat) 11 [V.lst (List.take xs10.length (List.drop 0 xs10))] : Option (List (List V))) = some xs11) ∧ (
    ((cplC.mk nx gp (Int.ofNat 0) (Int.ofNat 0) xs.length xs.length (Int.ofNat xs.length) : (cplL I).C) = cplC.mk nx gp 0 0 xs.length xs.length (Int.ofNat xs.length)) ∧ (
    ∃ m'12 : Nat, (((m'12 : Nat) < m7)) ∧ (
    I (cplC.mk nx gp 0 0 xs.length xs.length (Int.ofNat xs.length)) (cplX.mk xs 0) (cplX.mk xs11 (addI IntKind.i64 x6.2 1)) m'12))))))))))))))))))) (
    K (V.agg [V.int IntKind.i64 nx, V.int IntKind.i64 gp, V.lst (List.take xs.length (List.drop 0 x6.1))]) [])))))) := by kernel_rfl

def fl_vc_1 [MaxL] (nx gp : Int) (xs : List (List V)) (id : Int) (K : V → List Bk → Prop) : Prop :=
  (
      K (V.tup [V.agg [V.int IntKind.i64 0, V.int IntKind.i64 0, V.int IntKind.i64 0, V.str [], V.str [], V.int IntKind.i64 0, V.int IntKind.i64 0, V.int IntKind.i64 0, V.str [], V.lst [], V.str [], V.lst [], V.bool false], V.int IntKind.i64 0, V.bool false]) [])
theorem fl_vc [MaxL] (nx gp : Int) (xs : List (List V)) (id : Int) (K : V → List Bk → Prop) : vcF Tryz.prog cfgE (ctOf [(13, findCon)]) (lpOf []) 45 [.agg [.int .i64 nx, .int .i64 gp, .lst xs], .int .i64 (addI .i64 (mulI .i64 16 id) 1)] [] K = (
  br (eqI (addI IntKind.i64 (mulI IntKind.i64 16 id) 1) 1) (
    K (V.tup [V.agg [V.int IntKind.i64 0, V.int IntKind.i64 0, V.int IntKind.i64 0, V.str [], V.str [], V.int IntKind.i64 0, V.int IntKind.i64 0, V.int IntKind.i64 0, V.str [], V.lst [], V.str [], V.lst [], V.bool false], V.int IntKind.i64 0, V.bool true]) []) (
    br (ltI (addI IntKind.i64 (mulI IntKind.i64 16 id) 1) 16) (fl_vc_1 nx gp xs id K) (
      br (ltI 5 ((addI IntKind.i64 (mulI IntKind.i64 16 id) 1).tmod 16)) (fl_vc_1 nx gp xs id K) (
        ∃ l6 : List Proc, ((xs : List (List V)) = procV l6) ∧ (
        (((l6.length : Nat) ≤ 100000)) ∧ (
        (lenP l6) ∧ (
        ((noneP l6 (quoI IntKind.i64 (addI IntKind.i64 (mulI IntKind.i64 16 id) 1) 16)) → (
        K (V.tup [V.agg [V.int IntKind.i64 0, V.int IntKind.i64 0, V.int IntKind.i64 0, V.str [], V.str [], V.int IntKind.i64 0, V.int IntKind.i64 0, V.int IntKind.i64 0, V.str [], V.lst [], V.str [], V.lst [], V.bool false], V.int IntKind.i64 ((addI IntKind.i64 (mulI IntKind.i64 16 id) 1).tmod 16), V.bool false]) [])) ∧ (
        ∀ p7 : Proc, (isP l6 (quoI IntKind.i64 (addI IntKind.i64 (mulI IntKind.i64 16 id) 1) 16) p7) → (
        K (V.tup [V.agg [V.int IntKind.i64 p7.1, V.int IntKind.i64 p7.2, V.int IntKind.i64 p7.3, V.str p7.4, V.str p7.5, V.int IntKind.i64 p7.6, V.int IntKind.i64 p7.7, V.int IntKind.i64 p7.8, V.str p7.9, V.lst (strV p7.10), V.str p7.11, V.lst (waitV p7.12), V.bool p7.13], V.int IntKind.i64 ((addI IntKind.i64 (mulI IntKind.i64 16 id) 1).tmod 16), V.bool true]) []))))))))) := by kernel_rfl

end Go.Proofs.YthhpdnlfhofanaaGreatDoor
namespace Go.Proofs.YthhpdnlfhofanaaGreatDoor
open Go.RowKit
set_option maxRecDepth 100000
set_option linter.unusedVariables false
set_option linter.unusedSimpArgs false
def cpdCon : Con := fun vs bs K => match vs, bs with
  | [.agg [.int .i64 nx, .int .i64 gp, .lst xs]], [] => ∃ l : List Proc, xs = procV l ∧ l.length ≤ 100000 ∧ lenP l ∧ K (.agg [.int .i64 nx, .int .i64 gp, .lst xs]) []
  | _, _ => False
theorem cpd_con [MaxL] {n : Nat} (hn : 1 ≤ n) : ConOk (evalF Tryz.prog cfgE n) 46 cpdCon := by
  intro vs bs K h
  unfold cpdCon at h
  split at h
  · obtain ⟨l, rfl, hb, hl, hK⟩ := h
    refine run_of (lp := lpOf [(4, cplL fun _ _ x m => ∃ j : Nat, x.i = (j : Int) ∧ j + m = l.length ∧ x.ys = procV l)]) hn (fun k _ => noCt_ok _) ?_
    rw [cp_vc]
    simp only [procV_len]
    rw [need_iff]; refine ⟨procV_head _, ?_⟩
    rw [need_iff]; refine ⟨by simp only [br_iff, need_iff, andB_t, andB_f, orB_t, orB_f, notB_t, notB_f, leI_t, leI_f, ltI_t, ltI_f, eqI_t, eqI_f, leN_t, leN_f, eqN_t, eqN_f, eqS_t, eqS_f, eqB_t, eqB_f, catOk_t, leC_t]; omega, ?_⟩
    refine ⟨⟨l.length, by omega, 0, rfl, by omega, by trivial⟩, ?_⟩
    rintro ⟨ys, i⟩ m ⟨j, rfl, hj, rfl⟩
    dsimp only
    rw [br_iff]
    refine ⟨fun hlt => ?_, fun _ => ?_⟩
    · have hlt : j < l.length := by simp only [br_iff, need_iff, andB_t, andB_f, orB_t, orB_f, notB_t, notB_f, leI_t, leI_f, ltI_t, ltI_f, eqI_t, eqI_f, leN_t, leN_f, eqN_t, eqN_f, eqS_t, eqS_f, eqB_t, eqB_f, catOk_t, leC_t, Int.ofNat_eq_natCast] at hlt; omega
      obtain ⟨p, hp⟩ : ∃ p, l[j]? = some p := ⟨_, List.getElem?_eq_getElem hlt⟩
      have hlp := hl p (List.mem_of_getElem? hp)
      have hin : andB (leI 0 (j : Int)) (ltI (j : Int) (Int.ofNat l.length)) = true := by simp only [br_iff, need_iff, andB_t, andB_f, orB_t, orB_f, notB_t, notB_f, leI_t, leI_f, ltI_t, ltI_f, eqI_t, eqI_f, leN_t, leN_f, eqN_t, eqN_f, eqS_t, eqS_f, eqB_t, eqB_f, catOk_t, leC_t, Int.ofNat_eq_natCast]; omega
      have hok : okRow (procV l) (0 + (j : Int).toNat) 13 = true := by simpa using procV_ok (l := l) (i := j) hlt
      have hset : procV (l.set j p) = procV l := by
        congr 1
        obtain ⟨h, e⟩ := List.getElem?_eq_some_iff.1 hp
        rw [← e, List.set_getElem_self]
      have e1 : (strV p.notes).length = p.notes.length := by simp [strV]
      have e2 : (waitV p.waits).length = p.waits.length := waitV_len _
      rw [need_iff]; refine ⟨hin, ?_⟩
      rw [need_iff]; refine ⟨hok, strV p.notes, by simp only [Nat.zero_add, Int.toNat_natCast, procV_part hp]; rfl, ?_⟩
      rw [need_iff]; refine ⟨by cases p.notes <;> rfl, ?_⟩
      rw [need_iff]; refine ⟨by rw [e1]; simp only [br_iff, need_iff, andB_t, andB_f, orB_t, orB_f, notB_t, notB_f, leI_t, leI_f, ltI_t, ltI_f, eqI_t, eqI_f, leN_t, leN_f, eqN_t, eqN_f, eqS_t, eqS_f, eqB_t, eqB_f, catOk_t, leC_t]; omega, ?_⟩
      rw [need_iff]; refine ⟨hin, ?_⟩
      rw [need_iff]; refine ⟨hok, procV l, ?_, ?_⟩
      · simp only [Nat.zero_add, Int.toNat_natCast, List.drop_zero, List.take_length]
        rw [procV_put (g := p) hp rfl, hset]
      rw [need_iff]; refine ⟨hin, ?_⟩
      rw [need_iff]; refine ⟨hok, waitV p.waits, by simp only [Nat.zero_add, Int.toNat_natCast, procV_part hp]; rfl, ?_⟩
      rw [need_iff]; refine ⟨waitV_head _, ?_⟩
      rw [need_iff]; refine ⟨by rw [e2]; simp only [br_iff, need_iff, andB_t, andB_f, orB_t, orB_f, notB_t, notB_f, leI_t, leI_f, ltI_t, ltI_f, eqI_t, eqI_f, leN_t, leN_f, eqN_t, eqN_f, eqS_t, eqS_f, eqB_t, eqB_f, catOk_t, leC_t]; omega, ?_⟩
      rw [need_iff]; refine ⟨hin, ?_⟩
      rw [need_iff]; refine ⟨hok, procV l, ?_, ?_⟩
      · simp only [Nat.zero_add, Int.toNat_natCast, List.drop_zero, List.take_length]
        rw [procV_put (g := p) hp rfl, hset]
      exact ⟨by trivial, m - 1, by omega, j + 1, by rw [addI_i64 (by omega) (by omega)]; omega, by omega, rfl⟩
    · rw [List.drop_zero, List.take_of_length_le (by rw [procV_len]; exact Nat.le_refl _)]
      exact hK
  · exact h.elim
end Go.Proofs.YthhpdnlfhofanaaGreatDoor
namespace Go.Proofs.YthhpdnlfhofanaaGreatDoor
open Go.RowKit
set_option maxRecDepth 100000
set_option linter.unusedVariables false
set_option linter.unusedSimpArgs false
def flCon : Con := fun vs bs K => match vs, bs with
  | [.agg [.int .i64 nx, .int .i64 gp, .lst xs], .int .i64 k], [] => ∃ (l : List Proc) (id : Int) (p : Proc), xs = procV l ∧ l.length ≤ 100000 ∧ lenP l ∧ k = addI .i64 (mulI .i64 16 id) 1 ∧ 1 ≤ id ∧ id ≤ 1000000000 ∧ isP l id p ∧ (∀ q, isP l id q → q = p) ∧ K (.tup [.agg p.v, .int .i64 1, .bool true]) []
  | _, _ => False
theorem fl_con [MaxL] {n : Nat} (hn : 5 ≤ n) : ConOk (evalF Tryz.prog cfgE n) 45 flCon := by
  intro vs bs K h
  unfold flCon at h
  split at h
  · obtain ⟨l, id, p, rfl, hb, hl, rfl, h1, h2, hp, hu, hK⟩ := h
    refine run_of (lp := lpOf []) (by omega) (ct := ctOf [(13, findCon)]) (fun q hq => ctOf_ok (ctOf_cons (fi_con (by omega)) (ctOf_nil _))) ?_
    rw [fl_vc]
    have e : addI .i64 (mulI .i64 16 id) 1 = 16 * id + 1 := by rw [mulI_i64 (by omega) (by omega), addI_i64 (by omega) (by omega)]
    have em : (16 * id + 1).tmod 16 = 1 := by rw [Int.tmod_eq_emod_of_nonneg (by omega)]; omega
    have eq : quoI .i64 (16 * id + 1) 16 = id := by
      unfold quoI
      rw [Int.tdiv_eq_ediv_of_nonneg (by omega), show (16 * id + 1) / 16 = id by omega]
      exact wrap64 (by omega) (by omega)
    simp only [e, em, eq]
    rw [br_iff]; refine ⟨fun g => by simp only [br_iff, need_iff, andB_t, andB_f, orB_t, orB_f, notB_t, notB_f, leI_t, leI_f, ltI_t, ltI_f, eqI_t, eqI_f, leN_t, leN_f, eqN_t, eqN_f, eqS_t, eqS_f, eqB_t, eqB_f, catOk_t, leC_t] at g; omega, fun _ => ?_⟩
    rw [br_iff]; refine ⟨fun g => by simp only [br_iff, need_iff, andB_t, andB_f, orB_t, orB_f, notB_t, notB_f, leI_t, leI_f, ltI_t, ltI_f, eqI_t, eqI_f, leN_t, leN_f, eqN_t, eqN_f, eqS_t, eqS_f, eqB_t, eqB_f, catOk_t, leC_t] at g; omega, fun _ => ?_⟩
    rw [br_iff]; refine ⟨fun g => absurd g (by decide), fun _ => ?_⟩
    refine ⟨l, rfl, hb, hl, fun hno => absurd hp.2 (hno p hp.1), fun q hq => ?_⟩
    obtain rfl := hu q hq
    exact hK
  · exact h.elim
end Go.Proofs.YthhpdnlfhofanaaGreatDoor
namespace Go.Proofs.YthhpdnlfhofanaaGreatDoor
open Go.RowKit
variable [MaxL]
theorem awakeE_ev {n : Nat} (h : 40 ≤ n) : evalF Tryz.prog cfgE n 7 [] [] = some (.bool true, []) := by
  obtain ⟨k, rfl⟩ : ∃ k, n = k + 40 := ⟨n - 40, by omega⟩
  kernel_rfl
theorem okE_con {n : Nat} (hn : 40 ≤ n) : ConOk (evalF Tryz.prog cfgE n) 7 okCon := by
  intro vs bs K h
  unfold okCon at h
  split at h
  · exact ⟨_, _, awakeE_ev hn, h⟩
  · exact h.elim
end Go.Proofs.YthhpdnlfhofanaaGreatDoor
