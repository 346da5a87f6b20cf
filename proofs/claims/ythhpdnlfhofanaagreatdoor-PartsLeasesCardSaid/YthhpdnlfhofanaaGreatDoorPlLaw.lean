/- Leases: conditions of the cache and of PartsLeases. -/
import Derived.Test.YthhpdnlfhofanaaGreatDoorPlGrant
import Derived.Test.YthhpdnlfhofanaaGreatDoorEvF
namespace Go.Proofs.YthhpdnlfhofanaaGreatDoor
open Go.RowKit
set_option maxRecDepth 100000
set_option linter.unusedVariables false
set_option linter.unusedSimpArgs false
def vdCon : Con := fun vs bs K => match vs, bs with
  | [.lst ys, .int .i64 conn, .int .i64 id, .int .i64 1, .int .i64 now], [] => ∃ L : List Lease, ys = leaseV L ∧ L.length ≤ 100000 ∧ ∀ b : Bool, isAny (vaF conn id 1 now) L b → K (.bool b) []
  | _, _ => False

def blCon : Con := fun vs bs K => match vs, bs with
  | [.lst ys, .int .i64 conn, .int .i64 id, .int .i64 2, .int .i64 now], [] => ∃ L : List Lease, ys = leaseV L ∧ L.length ≤ 100000 ∧ ∀ b : Bool, isAny (blF conn id 2 now) L b → K (.bool b) []
  | _, _ => False

def hoCon : Con := fun vs bs K => match vs, bs with
  | [.agg [.int .i64 4, .nils, .nils], .int .i64 id, .int .i64 vers, .int .i64 til], [] => (1 ≤ id ∧ id ≤ 1099511627776 ∧ 0 ≤ vers ∧ vers ≤ 2147483647 ∧ 0 ≤ til ∧ til ≤ 1099512676352) ∧ K (.agg [.int .i64 4, .lst [], .lst [[.int .i64 id, .int .i64 vers, .int .i64 til]]]) []
  | _, _ => False

def hdCon : Con := fun vs bs K => match vs, bs with
  | [.agg [.int .i64 4, .lst [], .lst [[.int .i64 id, .int .i64 vers, .int .i64 til]]], .int .i64 id2, .int .i64 now], [] => id2 = id ∧ K (.bool (decide (now < til))) []
  | _, _ => False

noncomputable def cmpH [MaxL] : Con := inlC Tryz.prog cfgN (ctOf [(158, coCon)]) 164

noncomputable def bsH [MaxL] : Con := inlL Tryz.prog cfgN (ctOf [(164, cmpH)]) (lpOf [(3, unrL 2)]) 163

noncomputable def holdH [MaxL] : Con := inlC Tryz.prog cfgN (ctOf [(163, bsH)]) 89

theorem vd_vc [MaxL] (ys : List (List V)) (conn id now : Int) (K : V → List Bk → Prop) : vcF Tryz.prog cfgN (ctOf [(79, kiCon), (82, inlC Tryz.prog cfgN (ctOf [(156, ivCon)]) 82)]) (lpOf []) 28 [.lst ys, .int .i64 conn, .int .i64 id, .int .i64 1, .int .i64 now] [] K = (
  ∃ L6 : List Lease, ((ys : List (List V)) = leaseV L6) ∧ (
  (((L6.length : Nat) ≤ 100000)) ∧ (
  ∀ i7 : Int, (isIdx (vaF conn id 1 now) L6 i7) → (
  K (V.bool (leI 0 i7)) [])))) := by kernel_rfl

theorem bl_vc [MaxL] (ys : List (List V)) (conn id now : Int) (K : V → List Bk → Prop) : vcF Tryz.prog cfgN (ctOf [(79, kiCon), (82, inlC Tryz.prog cfgN (ctOf [(156, ibCon)]) 82)]) (lpOf []) 29 [.lst ys, .int .i64 conn, .int .i64 id, .int .i64 2, .int .i64 now] [] K = (
  ∃ L6 : List Lease, ((ys : List (List V)) = leaseV L6) ∧ (
  (((L6.length : Nat) ≤ 100000)) ∧ (
  ∀ i7 : Int, (isIdx (blF conn id 2 now) L6 i7) → (
  K (V.bool (leI 0 i7)) [])))) := by kernel_rfl

theorem ho_vc [MaxL] (id vers til : Int) (K : V → List Bk → Prop) : vcF Tryz.prog cfgN (ctOf [(88, inlC Tryz.prog cfgN (ctOf []) 88), (89, holdH), (90, inlC Tryz.prog cfgN (ctOf []) 90)]) (lpOf []) 25 [.agg [.int .i64 4, .nils, .nils], .int .i64 id, .int .i64 vers, .int .i64 til] [] K = (
  br (ltI id 1) (
    K (V.agg [V.int IntKind.i64 4, V.lst [], V.lst []]) []) (
    br (ltI 1099511627776 id) (
      K (V.agg [V.int IntKind.i64 4, V.lst [], V.lst []]) []) (
      br (ltI vers 0) (
        K (V.agg [V.int IntKind.i64 4, V.lst [], V.lst []]) []) (
        br (ltI 2147483647 vers) (
          K (V.agg [V.int IntKind.i64 4, V.lst [], V.lst []]) []) (
          br (ltI til 0) (
            K (V.agg [V.int IntKind.i64 4, V.lst [], V.lst []]) []) (
            br (ltI 1099512676352 til) (
              K (V.agg [V.int IntKind.i64 4, V.lst [], V.lst []]) []) (
              K (V.agg [V.int IntKind.i64 4, V.lst [], V.lst [[V.int IntKind.i64 id, V.int IntKind.i64 vers, V.int IntKind.i64 til]]]) []))))))) := by kernel_rfl

theorem hd_vc [MaxL] (id vers til now : Int) (K : V → List Bk → Prop) : vcF Tryz.prog cfgN (ctOf [(89, holdH)]) (lpOf []) 27 [.agg [.int .i64 4, .lst [], .lst [[.int .i64 id, .int .i64 vers, .int .i64 til]]], .int .i64 id, .int .i64 now] [] K = (
  ∃ n6 : Int, ∃ n7 : Int, ∃ n8 : Int, ((sub [V.int IntKind.i64 id, V.int IntKind.i64 vers, V.int IntKind.i64 til] 0 3 : Option (List V)) = some [V.int IntKind.i64 n6, V.int IntKind.i64 n7, V.int IntKind.i64 n8]) ∧ (
  br (ltI (cmpI n6 id) 0) (
    K (V.bool false) []) (
    ∃ n9 : Int, ∃ n10 : Int, ∃ n11 : Int, ((sub [V.int IntKind.i64 id, V.int IntKind.i64 vers, V.int IntKind.i64 til] 0 3 : Option (List V)) = some [V.int IntKind.i64 n9, V.int IntKind.i64 n10, V.int IntKind.i64 n11]) ∧ (
    br (eqI (cmpI n9 id) 0) (
      ∃ n12 : Int, ((sub [V.int IntKind.i64 id, V.int IntKind.i64 vers, V.int IntKind.i64 til] 2 1 : Option (List V)) = some [V.int IntKind.i64 n12]) ∧ (
      K (V.bool (ltI now n12)) [])) (
      K (V.bool false) []))))) := by kernel_rfl

theorem pl_vc [MaxL] (ys : List (List V)) (conn id term now vers at' other : Int) (K : V → List Bk → Prop) : vcF Tryz.prog cfgN (ctOf [(7, okCon), (23, rlCon), (24, grCon), (26, inlC Tryz.prog cfgN (ctOf []) 26), (25, hoCon), (27, hdCon), (28, vdCon), (29, blCon)]) (lpOf []) 6 [.lst ys, .int .i64 conn, .int .i64 id, .agg [.int .i64 term, .int .i64 now, .int .i64 vers, .int .i64 at', .int .i64 other]] [] K = (
  br (ltI 70 (lenL ys)) (
    K (V.bool true) []) (
    br (ltI vers 0) (
      K (V.bool true) []) (
      br (ltI 2147483647 vers) (
        K (V.bool true) []) (
        br (eqI other conn) (
          K (V.bool true) []) (
          ∃ L10 : List Lease, ((ys : List (List V)) = leaseV L10) ∧ (
          (((L10.length : Nat) ≤ 100000)) ∧ (
          ∀ b11 : Bool, (isRight L10 b11) → (
          br (notB b11) (
            K (V.bool true) []) (
            ∃ L12 : List Lease, ((ys : List (List V)) = leaseV L12) ∧ (
            (((L12.length : Nat) ≤ 64)) ∧ (
            (sortedP L12) ∧ (
            ∀ m13 : List Lease, ∀ u14 : Int, ∀ e15 : Int, (isGrant conn id 1 term now m13 u14 e15) → (
            br (notB (eqI e15 0)) (
              K (V.bool true) []) (
              ((((1 : Int) ≤ id)) ∧ (
              (((id : Int) ≤ 1099511627776)) ∧ (
              (((0 : Int) ≤ vers)) ∧ (
              (((vers : Int) ≤ 2147483647)) ∧ (
              (((0 : Int) ≤ u14)) ∧ (
              ((u14 : Int) ≤ 1099512676352))))))) ∧ (
              ((id : Int) = id) ∧ (
              br (eqI u14 (addI IntKind.i64 now term)) (
                ∃ L16 : List Lease, ((leaseV m13 : List (List V)) = leaseV L16) ∧ (
                (((L16.length : Nat) ≤ 100000)) ∧ (
                ∀ b17 : Bool, (isAny (vaF conn id 1 at') L16 b17) → (
                br (eqB (decide (at' < u14)) b17) (
                  br (notB (decide (at' < u14))) (
                    K (V.bool true) []) (
                    ∃ L18 : List Lease, ((leaseV m13 : List (List V)) = leaseV L18) ∧ (
                    (((L18.length : Nat) ≤ 100000)) ∧ (
                    ∀ b19 : Bool, (isAny (blF other id 2 at') L18 b19) → (
                    br (b19) (
                      K (V.bool true) []) (
                      K (V.bool false) [])))))) (
                  K (V.bool false) []))))) (
                K (V.bool false) []))))))))))))))))) := by kernel_rfl

end Go.Proofs.YthhpdnlfhofanaaGreatDoor
namespace Go.Proofs.YthhpdnlfhofanaaGreatDoor
open Go.RowKit
set_option maxRecDepth 100000
set_option linter.unusedVariables false
set_option linter.unusedSimpArgs false
theorem vd_con [MaxL] {n : Nat} (hn : 4 ≤ n) : ConOk (evalF Tryz.prog cfgN n) 28 vdCon := by
  intro vs bs K h
  unfold vdCon at h
  split at h
  · obtain ⟨L, rfl, hb, hK⟩ := h
    refine run_of (lp := lpOf []) (by omega) (ct := ctOf [(79, kiCon), (82, inlC Tryz.prog cfgN (ctOf [(156, ivCon)]) 82)])
      (fun k hk => ctOf_ok (ctOf_cons (ik_con (by omega)) (ctOf_cons (inl_ok (by omega) (fun q hq => ctOf_ok (ctOf_cons (iv_con (by omega)) (ctOf_nil _)))) (ctOf_nil _)))) ?_
    rw [vd_vc]
    exact ⟨L, rfl, hb, fun i hi => hK _ (by unfold isAny; rw [idx_any hi]; rfl)⟩
  · exact h.elim
theorem bl_con [MaxL] {n : Nat} (hn : 4 ≤ n) : ConOk (evalF Tryz.prog cfgN n) 29 blCon := by
  intro vs bs K h
  unfold blCon at h
  split at h
  · obtain ⟨L, rfl, hb, hK⟩ := h
    refine run_of (lp := lpOf []) (by omega) (ct := ctOf [(79, kiCon), (82, inlC Tryz.prog cfgN (ctOf [(156, ibCon)]) 82)])
      (fun k hk => ctOf_ok (ctOf_cons (ik_con (by omega)) (ctOf_cons (inl_ok (by omega) (fun q hq => ctOf_ok (ctOf_cons (ib_con (by omega)) (ctOf_nil _)))) (ctOf_nil _)))) ?_
    rw [bl_vc]
    exact ⟨L, rfl, hb, fun i hi => hK _ (by unfold isAny; rw [idx_any hi]; rfl)⟩
  · exact h.elim
theorem cmpH_ok [MaxL] {n : Nat} (hn : 3 ≤ n) : ConOk (evalF Tryz.prog cfgN n) 164 cmpH := inl_ok (by omega) fun q hq => ctOf_ok (ctOf_cons (co_con (by omega)) (ctOf_nil _))
theorem bsH_ok [MaxL] {n : Nat} (hn : 4 ≤ n) : ConOk (evalF Tryz.prog cfgN n) 163 bsH := inlL_ok (by omega) fun q hq => ctOf_ok (ctOf_cons (cmpH_ok (by omega)) (ctOf_nil _))
theorem holdH_ok [MaxL] {n : Nat} (hn : 5 ≤ n) : ConOk (evalF Tryz.prog cfgN n) 89 holdH := inl_ok (by omega) fun q hq => ctOf_ok (ctOf_cons (bsH_ok (by omega)) (ctOf_nil _))
theorem ho_con [MaxL] {n : Nat} (hn : 6 ≤ n) : ConOk (evalF Tryz.prog cfgN n) 25 hoCon := by
  intro vs bs K h
  unfold hoCon at h
  split at h
  · rename_i id vers til
    obtain ⟨⟨h1, h2, h3, h4, h5, h6⟩, hK⟩ := h
    refine run_of (lp := lpOf []) (by omega) (ct := ctOf [(88, inlC Tryz.prog cfgN (ctOf []) 88), (89, holdH), (90, inlC Tryz.prog cfgN (ctOf []) 90)])
      (fun k hk => ctOf_ok (ctOf_cons (inl_ok (by omega) fun _ _ => noCt_ok _) (ctOf_cons (holdH_ok (by omega)) (ctOf_cons (inl_ok (by omega) fun _ _ => noCt_ok _) (ctOf_nil _))))) ?_
    rw [ho_vc]
    rw [br_iff]; refine ⟨fun g => by simp only [br_iff, need_iff, andB_t, andB_f, orB_t, orB_f, notB_t, notB_f, leI_t, leI_f, ltI_t, ltI_f, eqI_t, eqI_f, leN_t, leN_f, eqN_t, eqN_f, eqS_t, eqS_f, eqB_t, eqB_f, catOk_t, leC_t] at g; omega, fun _ => ?_⟩
    rw [br_iff]; refine ⟨fun g => by simp only [br_iff, need_iff, andB_t, andB_f, orB_t, orB_f, notB_t, notB_f, leI_t, leI_f, ltI_t, ltI_f, eqI_t, eqI_f, leN_t, leN_f, eqN_t, eqN_f, eqS_t, eqS_f, eqB_t, eqB_f, catOk_t, leC_t] at g; omega, fun _ => ?_⟩
    rw [br_iff]; refine ⟨fun g => by simp only [br_iff, need_iff, andB_t, andB_f, orB_t, orB_f, notB_t, notB_f, leI_t, leI_f, ltI_t, ltI_f, eqI_t, eqI_f, leN_t, leN_f, eqN_t, eqN_f, eqS_t, eqS_f, eqB_t, eqB_f, catOk_t, leC_t] at g; omega, fun _ => ?_⟩
    rw [br_iff]; refine ⟨fun g => by simp only [br_iff, need_iff, andB_t, andB_f, orB_t, orB_f, notB_t, notB_f, leI_t, leI_f, ltI_t, ltI_f, eqI_t, eqI_f, leN_t, leN_f, eqN_t, eqN_f, eqS_t, eqS_f, eqB_t, eqB_f, catOk_t, leC_t] at g; omega, fun _ => ?_⟩
    rw [br_iff]; refine ⟨fun g => by simp only [br_iff, need_iff, andB_t, andB_f, orB_t, orB_f, notB_t, notB_f, leI_t, leI_f, ltI_t, ltI_f, eqI_t, eqI_f, leN_t, leN_f, eqN_t, eqN_f, eqS_t, eqS_f, eqB_t, eqB_f, catOk_t, leC_t] at g; omega, fun _ => ?_⟩
    rw [br_iff]; refine ⟨fun g => by simp only [br_iff, need_iff, andB_t, andB_f, orB_t, orB_f, notB_t, notB_f, leI_t, leI_f, ltI_t, ltI_f, eqI_t, eqI_f, leN_t, leN_f, eqN_t, eqN_f, eqS_t, eqS_f, eqB_t, eqB_f, catOk_t, leC_t] at g; omega, fun _ => ?_⟩
    exact hK
  · exact h.elim
theorem cmpI_self (a : Int) : cmpI a a = 0 := by unfold cmpI; rw [if_neg (Int.lt_irrefl a), if_neg (Int.lt_irrefl a)]
theorem hd_con [MaxL] {n : Nat} (hn : 6 ≤ n) : ConOk (evalF Tryz.prog cfgN n) 27 hdCon := by
  intro vs bs K h
  unfold hdCon at h
  split at h
  · rename_i id vers til id2 now
    obtain ⟨rfl, hK⟩ := h
    refine run_of (lp := lpOf []) (by omega) (ct := ctOf [(89, holdH)]) (fun k hk => ctOf_ok (ctOf_cons (holdH_ok (by omega)) (ctOf_nil _))) ?_
    rw [hd_vc]
    refine ⟨_, _, _, rfl, ?_⟩
    rw [cmpI_self, br_iff]; refine ⟨fun g => absurd g (by decide), fun _ => ?_⟩
    refine ⟨_, _, _, rfl, ?_⟩
    rw [cmpI_self, br_iff]; refine ⟨fun _ => ⟨_, rfl, hK⟩, fun g => absurd g (by decide)⟩
  · exact h.elim
def Says [MaxL] (f : Nat) (vs : List V) : Prop := ∃ r out, evalF Tryz.prog cfgN 50 f vs [] = some (r, out) ∧ r = .bool true ∧ out = []
theorem leases_says [MaxL] (l : List Lease) (conn id term now vers at' other : Int) : Says 6 [.lst (leaseV l), .int .i64 conn, .int .i64 id, .agg [.int .i64 term, .int .i64 now, .int .i64 vers, .int .i64 at', .int .i64 other]] := by
  refine run_of (lp := lpOf []) (by omega) (ct := ctOf [(7, okCon), (23, rlCon), (24, grCon), (26, inlC Tryz.prog cfgN (ctOf []) 26), (25, hoCon), (27, hdCon), (28, vdCon), (29, blCon)])
    (fun k hk => ctOf_ok (ctOf_cons (ok_con (by omega)) (ctOf_cons (rl_con (by omega)) (ctOf_cons (gr_con (by omega)) (ctOf_cons (inl_ok (by omega) fun _ _ => noCt_ok _) (ctOf_cons (ho_con (by omega)) (ctOf_cons (hd_con (by omega)) (ctOf_cons (vd_con (by omega)) (ctOf_cons (bl_con (by omega)) (ctOf_nil _)))))))))) ?_
  rw [pl_vc]
  rw [leaseV_lenL]
  rw [br_iff]; refine ⟨fun _ => by simp, fun g1 => ?_⟩
  rw [br_iff]; refine ⟨fun _ => by simp, fun g2 => ?_⟩
  rw [br_iff]; refine ⟨fun _ => by simp, fun g3 => ?_⟩
  rw [br_iff]; refine ⟨fun _ => by simp, fun g4 => ?_⟩
  simp only [br_iff, need_iff, andB_t, andB_f, orB_t, orB_f, notB_t, notB_f, leI_t, leI_f, ltI_t, ltI_f, eqI_t, eqI_f, leN_t, leN_f, eqN_t, eqN_f, eqS_t, eqS_f, eqB_t, eqB_f, catOk_t, leC_t] at g1 g2 g3 g4
  refine ⟨l, rfl, by omega, fun b hb => ?_⟩
  rw [br_iff]; refine ⟨fun _ => by simp, fun g5 => ?_⟩
  obtain ⟨hl, hok, hs⟩ := hb (by simpa [notB] using g5)
  refine ⟨l, rfl, hl, hs, fun m u e hg => ?_⟩
  rw [br_iff]; refine ⟨fun _ => by simp, fun g6 => ?_⟩
  obtain ⟨⟨b1, b2, b3, b4, b5, b6⟩, rfl, hm, hx, hun⟩ := hg (by simpa [notB, eqI] using g6)
  refine ⟨⟨b1, b2, by omega, by omega, by omega, by omega⟩, rfl, ?_⟩
  rw [addI_i64 (by omega) (by omega)]
  rw [br_iff]; refine ⟨fun _ => ?_, fun g => absurd g (by simp [eqI])⟩
  refine ⟨m, rfl, by omega, fun c hc => ?_⟩
  unfold isAny at hc
  rw [valid_any hx hun] at hc
  subst hc
  rw [br_iff]; refine ⟨fun _ => ?_, fun g => absurd g (by simp [eqB])⟩
  rw [br_iff]; refine ⟨fun _ => by simp, fun g7 => ?_⟩
  have g7 : at' < now + term := by simpa [notB] using g7
  refine ⟨m, rfl, by omega, fun d hd => ?_⟩
  unfold isAny at hd
  rw [blocks_any hx g7 g4] at hd
  subst hd
  rw [br_iff]; exact ⟨fun _ => by simp, fun g => absurd g (by decide)⟩
def plSh : List Sh := [.slice 32 4 leaseSh, .int .i64, .int .i64, .rep 5 (.int .i64)]
theorem int1 {p : List V} (h : Fits (.int .i64) p) : ∃ a : Int, p = [.int .i64 a] := by
  obtain ⟨a, rfl, _⟩ := h
  exact ⟨a, rfl⟩
theorem five_fits {v : V} (h : FitsA (.rep 5 (.int .i64)) v) : ∃ a b c d e : Int, v = .agg [.int .i64 a, .int .i64 b, .int .i64 c, .int .i64 d, .int .i64 e] := by
  obtain ⟨vs, rfl, ps, rfl, hl, hp⟩ := h
  match ps, hl with
  | [p, q, r, s, t], _ =>
    obtain ⟨a, rfl⟩ := int1 (hp p (by simp))
    obtain ⟨b, rfl⟩ := int1 (hp q (by simp))
    obtain ⟨c, rfl⟩ := int1 (hp r (by simp))
    obtain ⟨d, rfl⟩ := int1 (hp s (by simp))
    obtain ⟨e, rfl⟩ := int1 (hp t (by simp))
    exact ⟨a, b, c, d, e, rfl⟩
theorem leases_fits [MaxL] {us : List V} (h : FitsAll plSh us) : Says 6 us := by
  obtain ⟨v0, r0, rfl, ⟨xs, h0, _, hx⟩, v1, r1, rfl, h1, v2, r2, rfl, h2, v3, r3, rfl, h3, rfl⟩ := h
  obtain ⟨l, rfl, _⟩ := rows_of Lease.v (fun a => a.fit) (fun q hq => Lease.fits (hx q hq).2)
  obtain rfl : v0 = .lst (leaseV l) := by simpa [leaseV] using h0
  obtain ⟨a, h1⟩ := int1 h1
  obtain rfl : v1 = .int .i64 a := by simpa using h1
  obtain ⟨b, h2⟩ := int1 h2
  obtain rfl : v2 = .int .i64 b := by simpa using h2
  obtain ⟨c, d, e, f, g, rfl⟩ := five_fits h3
  exact leases_says l a b c d e f g
end Go.Proofs.YthhpdnlfhofanaaGreatDoor
