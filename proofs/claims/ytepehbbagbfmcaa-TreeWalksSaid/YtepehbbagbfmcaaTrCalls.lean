/- Trees: Rename, Attrs. -/
import Derived.Test.YtepehbbagbfmcaaTrKeep
namespace Go.Proofs.Ytepehbbagbfmcaa
open Go.RowKit
set_option maxRecDepth 100000
set_option linter.unusedVariables false
set_option linter.unusedSimpArgs false
def nmd (x : Node) (name : List UInt8) : Node := { x with name := name }
def nameL (l : List Node) (s : Int) (name : List UInt8) : List Node := withF l (nmd (nodeF l s) name)
def renameF (n : Int) (l : List Node) (s : Int) (name uid : List UInt8) (now : Int) : (Int × List Node) × Int :=
  if hasB l s = false then ((n, l), 8) else if s = 1 then ((n, l), 1) else if nameB name = false then ((n, l), 6) else if (nodeF l s).name = name then ((n, l), 0)
  else if (l.find? (chP (nodeF l s).par name)).isSome = true then ((n, l), 7)
  else ((n, withF (nameL l s name) (touchF (nodeF (nameL l s name) (nodeF l s).par) uid now)), 0)
def renameCon : Con := fun vs bs K => match vs, bs with
  | [.agg [.int .i64 n, .lst xs], .int .i64 s, .str name, .str uid, .int .i64 now], [] => ∃ l, xs = nodeV l ∧ goodT n l ∧ name.length ≤ 9223372036854775807 ∧ K (.tup [.agg [.int .i64 (renameF n l s name uid now).1.1, .lst (nodeV (renameF n l s name uid now).1.2)], .int .i64 (renameF n l s name uid now).2]) []
  | _, _ => False
/-- The renamed list is valid, and the parent stands where it stood. -/
theorem ren_good {n : Int} {l : List Node} (h : goodT n l) {k : Nat} {x : Node} (gx : l[k]? = some x) (hx : x.id ≠ 1) {name : List UInt8} (hn : nameB name = true) (hf : ∀ z ∈ l, chP x.par name z = false) :
    nameL l x.id name = l.set k (nmd x name) ∧ goodT n (l.set k (nmd x name)) := by
  have e1 : nameL l x.id name = l.set k (nmd x name) := by
    unfold nameL
    rw [(good_node h gx).1]
    exact with_set h gx (y := (nmd x name)) rfl
  have hk : 0 < k := by
    rcases Nat.eq_zero_or_pos k with q | q
    · exact absurd ((good_head h gx).2 q) hx
    · exact q
  refine ⟨e1, good_set (y := (nmd x name)) h gx ?_ rfl rfl rfl (.inr ⟨hk, hn, fun j z hj hjk gz => ?_⟩)⟩
  · have := sound_iff.1 (h.2.2.2 k x gx).1
    exact sound_iff.2 this
  · have := hf z (List.mem_of_getElem? gz)
    rw [chP_f] at this
    have hz : z.id ≠ 1 := fun q => by have := (good_head h gz).1 q; omega
    exact fun c => this ⟨c.1, hz, c.2⟩
theorem has_of {n : Int} {l : List Node} {s : Int} {k : Nat} {f : Node} (gf : l[k]? = some f) (h3 : idP s f = true) (h4 : noneB (idP s) l k) : hasB l s = true ∧ nodeF l s = f ∧ f.id = s := by
  have := node_at gf h3 h4
  exact ⟨this.2, this.1, by rw [idP_t] at h3; exact h3⟩
/-- The parent's place. -/
theorem par_at {n : Int} {l : List Node} (h : goodT n l) {k : Nat} {x : Node} (gx : l[k]? = some x) (hx : x.id ≠ 1) : ∃ (p : Nat) (y : Node), p < k ∧ l[p]? = some y ∧ y.id = x.par ∧ fidx (idP x.par) l = (p : Int) ∧ nodeF l x.par = y ∧ hasB l x.par = true ∧ dirB y.mode = true := by
  obtain ⟨p, y, hp, gy, e1, e2, e3, e4, _⟩ := good_par h gx hx
  refine ⟨p, y, hp, gy, e1, ?_, e3, e4, e2⟩
  refine fidx_at gy (by rw [idP_t]; exact e1) fun j g hj hg => ?_
  rw [idP_f]
  intro q
  have := good_uniq h hg gy (by omega)
  omega
theorem rn_con {n : Nat} (hn : 5 ≤ n) : ConOk (evalF Try.prog cfgN n) 56 renameCon := by
  intro vs bs K h
  unfold renameCon at h
  split at h
  · rename_i nx xs s name uid now
    obtain ⟨l, rfl, hg, hnl, hK⟩ := h
    have hb : l.length ≤ 100000 := by have := hg.2.1; omega
    refine run_of (lp := lpOf []) (by omega) (ct := ctOf [(53, indexCon), (47, cloneCon), (40, nameCon), (52, childCon), (50, changeCon)])
      (fun k hk => ctOf_ok (ctOf_cons (ix_con (by omega)) (ctOf_cons (cl_con (by omega)) (ctOf_cons (pv_con (by omega)) (ctOf_cons (cx_con (by omega)) (ctOf_cons (cg_con (by omega)) (ctOf_nil _))))))) ?_
    rw [rna_vc]
    have e : ∀ {n' : Int} {l' : List Node} {e : Int}, ((n', l'), e) = renameF nx l s name uid now → K (.tup [.agg [.int .i64 n', .lst (nodeV l')], .int .i64 e]) [] := fun q => by rw [← q] at hK; exact hK
    unfold renameF at e
    simp only [nodeV_lenL]
    refine ⟨l, rfl, hb, ?_⟩
    rcases fidx_cases (idP s) l with ⟨h1, h2⟩ | ⟨k, x, h1, gx, h3, h4, hlt⟩
    · rw [h1]
      rw [if_pos (node_no h2).2] at e
      exact br_iff.2 ⟨fun _ => ⟨l, rfl, hb, by rw [take_all]; exact e rfl⟩, fun g => by simp only [br_iff, need_iff, andB_t, andB_f, orB_t, orB_f, notB_t, notB_f, leI_t, leI_f, ltI_t, ltI_f, eqI_t, eqI_f, leN_t, leN_f, eqN_t, eqN_f, eqS_t, eqS_f, eqB_t, eqB_f, catOk_t, leC_t] at g; omega⟩
    · obtain ⟨hh, en, ei⟩ := has_of (n := nx) gx h3 h4
      rw [h1]
      rw [if_neg (by simp [hh]), en] at e
      refine br_iff.2 ⟨fun g => by simp only [br_iff, need_iff, andB_t, andB_f, orB_t, orB_f, notB_t, notB_f, leI_t, leI_f, ltI_t, ltI_f, eqI_t, eqI_f, leN_t, leN_f, eqN_t, eqN_f, eqS_t, eqS_f, eqB_t, eqB_f, catOk_t, leC_t] at g; omega, fun _ => br_iff.2 ⟨fun g => ⟨l, rfl, hb, ?_⟩, fun g2 => ⟨hnl, br_iff.2 ⟨fun g => ⟨l, rfl, hb, ?_⟩, fun g3 => ?_⟩⟩⟩⟩
      · simp only [br_iff, need_iff, andB_t, andB_f, orB_t, orB_f, notB_t, notB_f, leI_t, leI_f, ltI_t, ltI_f, eqI_t, eqI_f, leN_t, leN_f, eqN_t, eqN_f, eqS_t, eqS_f, eqB_t, eqB_f, catOk_t, leC_t] at g
        rw [take_all]; exact e (by rw [if_pos g])
      · simp only [br_iff, need_iff, andB_t, andB_f, orB_t, orB_f, notB_t, notB_f, leI_t, leI_f, ltI_t, ltI_f, eqI_t, eqI_f, leN_t, leN_f, eqN_t, eqN_f, eqS_t, eqS_f, eqB_t, eqB_f, catOk_t, leC_t] at g2 g
        rw [take_all]; exact e (by rw [if_neg g2, if_pos g])
      · simp only [br_iff, need_iff, andB_t, andB_f, orB_t, orB_f, notB_t, notB_f, leI_t, leI_f, ltI_t, ltI_f, eqI_t, eqI_f, leN_t, leN_f, eqN_t, eqN_f, eqS_t, eqS_f, eqB_t, eqB_f, catOk_t, leC_t] at g2 g3
        rw [if_neg g2, if_neg (by simp [g3])] at e
        have gq : l[k]? = some l[k] := List.getElem?_eq_getElem hlt
        generalize l[k] = q at gq
        have rq := nodeV_row gq
        have kq : okRow (nodeV l) (Int.toNat (k : Int)) 11 = true := by simpa using nodeV_ok (l := l) (i := k) hlt
        have nq : andB (leI 0 (k : Int)) (ltI (k : Int) (l.length : Int)) = true := by simp only [br_iff, need_iff, andB_t, andB_f, orB_t, orB_f, notB_t, notB_f, leI_t, leI_f, ltI_t, ltI_f, eqI_t, eqI_f, leN_t, leN_f, eqN_t, eqN_f, eqS_t, eqS_f, eqB_t, eqB_f, catOk_t, leC_t]; omega
        obtain rfl := Option.some.inj (gx.symm.trans gq)
        rw [need_iff, need_iff]
        refine ⟨nq, kq, ?_⟩
        try rw [rq]
        repeat apply Exists.intro
        refine ⟨rfl, ?_⟩
        refine br_iff.2 ⟨fun g => ⟨l, rfl, hb, ?_⟩, fun g4 => ?_⟩
        · simp only [br_iff, need_iff, andB_t, andB_f, orB_t, orB_f, notB_t, notB_f, leI_t, leI_f, ltI_t, ltI_f, eqI_t, eqI_f, leN_t, leN_f, eqN_t, eqN_f, eqS_t, eqS_f, eqB_t, eqB_f, catOk_t, leC_t] at g
          rw [take_all]; exact e (by rw [if_pos g.symm])
        · simp only [br_iff, need_iff, andB_t, andB_f, orB_t, orB_f, notB_t, notB_f, leI_t, leI_f, ltI_t, ltI_f, eqI_t, eqI_f, leN_t, leN_f, eqN_t, eqN_f, eqS_t, eqS_f, eqB_t, eqB_f, catOk_t, leC_t] at g4
          rw [if_neg (fun q => g4 q.symm)] at e
          rw [need_iff, need_iff]
          refine ⟨nq, kq, ?_⟩
          try rw [rq]
          repeat apply Exists.intro
          refine ⟨rfl, ?_⟩
          refine ⟨l, rfl, hb, ?_⟩
          rcases fidx_cases (chP x.par name) l with ⟨q1, q2⟩ | ⟨k2, f, q1, gf, q3, q4, _⟩
          · rw [q1]
            rw [if_neg (by rw [find_no q2]; simp)] at e
            refine br_iff.2 ⟨(fun g => by cases g), fun _ => ?_⟩
            obtain ⟨r1, r2⟩ := ren_good hg gx (by rw [ei]; exact g2) g3 q2
            rw [ei] at r1
            rw [r1] at e
            have g5 : (l.set k (nmd x name))[k]? = some (nmd x name) := by rw [List.getElem?_set_self hlt]
            obtain ⟨p, y, hp, gy, p1, p2, p3, p4, _⟩ := par_at r2 g5 (show x.id ≠ 1 by rw [ei]; exact g2)
            have p2' : fidx (idP x.par) (l.set k (nmd x name)) = (p : Int) := p2
            have p3' : nodeF (l.set k (nmd x name)) x.par = y := p3
            rw [p3', with_set r2 gy (y := touchF y uid now) rfl] at e
            have hv := sound_iff.1 (r2.2.2.2 p y gy).1
            simp only [Int.toNat_natCast, Nat.zero_add]
            refine ⟨l, rfl, hb, need_iff.2 ⟨by simp only [br_iff, need_iff, andB_t, andB_f, orB_t, orB_f, notB_t, notB_f, leI_t, leI_f, ltI_t, ltI_f, eqI_t, eqI_f, leN_t, leN_f, eqN_t, eqN_f, eqS_t, eqS_f, eqB_t, eqB_f, catOk_t, leC_t, Int.ofNat_eq_natCast]; omega, need_iff.2 ⟨nodeV_ok hlt, _, nodeV_put (g := (nmd x name)) gx rfl, need_iff.2 ⟨by simp only [br_iff, need_iff, andB_t, andB_f, orB_t, orB_f, notB_t, notB_f, leI_t, leI_f, ltI_t, ltI_f, eqI_t, eqI_f, leN_t, leN_f, eqN_t, eqN_f, eqS_t, eqS_f, eqB_t, eqB_f, catOk_t, leC_t, Int.ofNat_eq_natCast]; omega, need_iff.2 ⟨nodeV_ok (by rw [List.length_set]; exact hlt), x.par, by rw [nodeV_part g5]; rfl, l.set k (nmd x name), ?_, by simpa using hb, l.set k (nmd x name), p, y, rfl, by simp, by simpa using hb, p2', gy, ⟨hv.2.1, hv.2.2.1⟩, ?_⟩⟩⟩⟩⟩
            · rw [List.drop_zero, List.take_of_length_le (by simp [nodeV_len])]
            · rw [List.drop_zero, List.take_of_length_le (by simp [nodeV_len])]
              exact e rfl
          · rw [q1]
            rw [if_pos (by rw [find_at gf q3 q4]; rfl)] at e
            exact br_iff.2 ⟨fun _ => ⟨l, rfl, hb, by rw [take_all]; exact e rfl⟩, fun g => by simp only [br_iff, need_iff, andB_t, andB_f, orB_t, orB_f, notB_t, notB_f, leI_t, leI_f, ltI_t, ltI_f, eqI_t, eqI_f, leN_t, leN_f, eqN_t, eqN_f, eqS_t, eqS_f, eqB_t, eqB_f, catOk_t, leC_t] at g; omega⟩
  · exact h.elim
theorem rrn_con {n : Nat} (hn : 6 ≤ n) : ConOk (evalF Try.prog cfgN n) 62 renameCon := by
  intro vs bs K h
  unfold renameCon at h
  split at h
  · rename_i nx xs s name uid now
    obtain ⟨l, rfl, hg, hnl, hK⟩ := h
    have hb : l.length ≤ 100000 := by have := hg.2.1; omega
    refine run_of (lp := lpOf []) (by omega) (ct := ctOf [(21, nodeCon), (42, nameCon), (27, findCon), (70, movedCon), (72, withCon)])
      (fun k hk => ctOf_ok (ctOf_cons (rno_con (by omega)) (ctOf_cons (rv_con (by omega)) (ctOf_cons (rfd_con (by omega)) (ctOf_cons (mv_con (by omega)) (ctOf_cons (wt_con (by omega)) (ctOf_nil _))))))) ?_
    rw [rrn_vc]
    have e : ∀ {n' : Int} {l' : List Node} {e : Int}, ((n', l'), e) = renameF nx l s name uid now → K (.tup [.agg [.int .i64 n', .lst (nodeV l')], .int .i64 e]) [] := fun q => by rw [← q] at hK; exact hK
    unfold renameF at e
    refine ⟨l, rfl, hb, br_iff.2 ⟨fun g => e ?_, fun g1 => br_iff.2 ⟨fun g => e ?_, fun g2 => ⟨hnl, br_iff.2 ⟨fun g => e ?_, fun g3 => br_iff.2 ⟨fun g => e ?_, fun g4 => ⟨l, rfl, hg, ?_⟩⟩⟩⟩⟩⟩⟩
    · simp only [br_iff, need_iff, andB_t, andB_f, orB_t, orB_f, notB_t, notB_f, leI_t, leI_f, ltI_t, ltI_f, eqI_t, eqI_f, leN_t, leN_f, eqN_t, eqN_f, eqS_t, eqS_f, eqB_t, eqB_f, catOk_t, leC_t] at g
      rw [if_pos g]
    · simp only [br_iff, need_iff, andB_t, andB_f, orB_t, orB_f, notB_t, notB_f, leI_t, leI_f, ltI_t, ltI_f, eqI_t, eqI_f, leN_t, leN_f, eqN_t, eqN_f, eqS_t, eqS_f, eqB_t, eqB_f, catOk_t, leC_t] at g1 g
      rw [if_neg (by simp [g1]), if_pos g]
    · simp only [br_iff, need_iff, andB_t, andB_f, orB_t, orB_f, notB_t, notB_f, leI_t, leI_f, ltI_t, ltI_f, eqI_t, eqI_f, leN_t, leN_f, eqN_t, eqN_f, eqS_t, eqS_f, eqB_t, eqB_f, catOk_t, leC_t] at g1 g2 g
      rw [if_neg (by simp [g1]), if_neg g2, if_pos g]
    · simp only [br_iff, need_iff, andB_t, andB_f, orB_t, orB_f, notB_t, notB_f, leI_t, leI_f, ltI_t, ltI_f, eqI_t, eqI_f, leN_t, leN_f, eqN_t, eqN_f, eqS_t, eqS_f, eqB_t, eqB_f, catOk_t, leC_t] at g1 g2 g3 g
      rw [if_neg (by simp [g1]), if_neg g2, if_neg (by simp [g3]), if_pos g]
    · simp only [br_iff, need_iff, andB_t, andB_f, orB_t, orB_f, notB_t, notB_f, leI_t, leI_f, ltI_t, ltI_f, eqI_t, eqI_f, leN_t, leN_f, eqN_t, eqN_f, eqS_t, eqS_f, eqB_t, eqB_f, catOk_t, leC_t] at g1 g2 g3 g4
      rw [if_neg (by simp [g1]), if_neg g2, if_neg (by simp [g3]), if_neg g4] at e
      obtain ⟨k, x, gx, ei, en, hlt⟩ := has_at g1
      rw [en] at e ⊢
      obtain ⟨p, y, hp, gy, p1, p2, p3, p4, p5⟩ := par_at hg gx (by rw [ei]; exact g2)
      have hw : withinF l x.par = 0 := by unfold withinF; rw [if_pos p4, p3, if_pos p5]
      have hdd : name ≠ [46, 46] := by
        simp only [nameB, Bool.and_eq_true, decide_eq_true_eq] at g3
        exact g3.1.2.2.1
      have hfd : findF l x.par name = match l.find? (chP x.par name) with | some x => (x.id, 0) | none => (0, 8) := by
        unfold findF; rw [hw, if_neg (by decide), if_neg hdd]; rfl
      rcases fidx_cases (chP x.par name) l with ⟨q1, q2⟩ | ⟨k2, f, q1, gf, q3, q4, _⟩
      · rw [hfd, find_no q2]
        rw [if_neg (by rw [find_no q2]; simp)] at e
        refine br_iff.2 ⟨(fun g => by cases g), fun _ => ?_⟩
        obtain ⟨r1, r2⟩ := ren_good hg gx (by rw [ei]; exact g2) g3 q2
        rw [ei] at r1
        rw [r1] at e
        have ew : withF l (nmd x name) = l.set k (nmd x name) := with_set hg gx (y := (nmd x name)) rfl
        have hv := vers_ok r2 x.par
        refine ⟨l, (nmd x name), rfl, rfl, hb, l.set k (nmd x name), ?_, by simpa using hb, hv, ?_⟩
        · rw [ew, List.drop_zero, List.take_of_length_le (by simp [nodeV_len])]
        · rw [List.drop_zero, List.take_of_length_le (by rw [nodeV_len, with_len]; omega)]
          exact e rfl
      · rw [hfd, find_at gf q3 q4]
        rw [if_pos (by rw [find_at gf q3 q4]; rfl)] at e
        exact br_iff.2 ⟨fun _ => e rfl, fun g => by simp [eqI] at g⟩
  · exact h.elim
theorem rename_good {n : Int} {l : List Node} (h : goodT n l) {s : Int} {name uid : List UInt8} {now : Int} : goodT (renameF n l s name uid now).1.1 (renameF n l s name uid now).1.2 := by
  unfold renameF
  split
  · exact h
  · rename_i g1
    split
    · exact h
    · rename_i g2
      split
      · exact h
      · rename_i g3
        split
        · exact h
        · split
          · exact h
          · rename_i g5
            obtain ⟨k, x, gx, ei, en, hlt⟩ := has_at (by simpa using g1)
            rw [en] at g5 ⊢
            rcases fidx_cases (chP x.par name) l with ⟨q1, q2⟩ | ⟨k2, f, q1, gf, q3, q4, _⟩
            · obtain ⟨r1, r2⟩ := ren_good h gx (by rw [ei]; exact g2) (by simpa using g3) q2
              rw [ei] at r1
              rw [r1]
              have g6 : (l.set k (nmd x name))[k]? = some (nmd x name) := by rw [List.getElem?_set_self hlt]
              obtain ⟨p, y, hp, gy, p1, p2, p3, p4, _⟩ := par_at r2 g6 (show x.id ≠ 1 by rw [ei]; exact g2)
              have p3' : nodeF (l.set k (nmd x name)) x.par = y := p3
              rw [p3']
              exact good_touch r2 gy (r2.2.2.2 p y gy).1 uid now rfl rfl rfl rfl
            · exact absurd (by rw [find_at gf q3 q4]; rfl) g5
end Go.Proofs.Ytepehbbagbfmcaa
namespace Go.Proofs.Ytepehbbagbfmcaa
open Go.RowKit
set_option maxRecDepth 100000
set_option linter.unusedVariables false
set_option linter.unusedSimpArgs false
def attrY (x : Node) (mode : Int) (gid : List UInt8) (mt : Int) : Node := { x with mode := if mode = -1 then x.mode else mode, gid := if shortF gid = [] then x.gid else shortF gid, mtime := if mt = -1 then x.mtime else mt }
def attrsF (n : Int) (l : List Node) (s mode : Int) (gid : List UInt8) (mt : Int) : (Int × List Node) × Int :=
  if hasB l s = false then ((n, l), 8) else if mode ≠ -1 ∧ (validB mode = false ∨ dirB mode ≠ dirB (nodeF l s).mode) then ((n, l), 1)
  else if mt ≠ -1 ∧ mt ≠ clockF mt then ((n, l), 5) else ((n, withF l (attrY (nodeF l s) mode gid mt)), 0)
def attrsCon : Con := fun vs bs K => match vs, bs with
  | [.agg [.int .i64 n, .lst xs], .int .i64 s, .int .i64 mode, .str gid, .int .i64 mt], [] => ∃ l, xs = nodeV l ∧ goodT n l ∧ mode ≤ 9223372036854775807 ∧ K (.tup [.agg [.int .i64 (attrsF n l s mode gid mt).1.1, .lst (nodeV (attrsF n l s mode gid mt).1.2)], .int .i64 (attrsF n l s mode gid mt).2]) []
  | _, _ => False
theorem short_id {s : List UInt8} (h : shortF s ≠ []) : shortF s = s := by
  unfold shortF at h ⊢
  split
  · rfl
  · rename_i q; rw [if_neg q] at h; exact absurd rfl h
theorem at_con {n : Nat} (hn : 4 ≤ n) : ConOk (evalF Try.prog cfgN n) 57 attrsCon := by
  intro vs bs K h
  unfold attrsCon at h
  split at h
  · rename_i nx xs s mode gid mt
    obtain ⟨l, rfl, hg, hml, hK⟩ := h
    have hb : l.length ≤ 100000 := by have := hg.2.1; omega
    refine run_of (lp := lpOf []) (by omega) (ct := ctOf [(53, indexCon), (47, cloneCon), (64, intCon validB), (39, intCon dirB), (35, clockCon), (34, shortCon)])
      (fun k hk => ctOf_ok (ctOf_cons (ix_con (by omega)) (ctOf_cons (cl_con (by omega)) (ctOf_cons (val_con (by omega)) (ctOf_cons (dir_con (by omega)) (ctOf_cons (clk_con (by omega)) (ctOf_cons (sho_con (by omega)) (ctOf_nil _)))))))) ?_
    rw [at_vc]
    have e : ∀ {n' : Int} {l' : List Node} {e : Int}, ((n', l'), e) = attrsF nx l s mode gid mt → K (.tup [.agg [.int .i64 n', .lst (nodeV l')], .int .i64 e]) [] := fun q => by rw [← q] at hK; exact hK
    unfold attrsF at e
    simp only [nodeV_lenL]
    refine ⟨l, rfl, hb, ?_⟩
    rcases fidx_cases (idP s) l with ⟨h1, h2⟩ | ⟨k, x, h1, gx, h3, h4, hlt⟩
    · rw [h1]
      rw [if_pos (node_no h2).2] at e
      exact br_iff.2 ⟨fun _ => ⟨l, rfl, hb, by rw [take_all]; exact e rfl⟩, fun g => by simp only [br_iff, need_iff, andB_t, andB_f, orB_t, orB_f, notB_t, notB_f, leI_t, leI_f, ltI_t, ltI_f, eqI_t, eqI_f, leN_t, leN_f, eqN_t, eqN_f, eqS_t, eqS_f, eqB_t, eqB_f, catOk_t, leC_t] at g; omega⟩
    · obtain ⟨hh, en, ei⟩ := has_of (n := nx) gx h3 h4
      rw [if_neg (by simp [hh]), en] at e
      have hvm := valid_le (good_valid hg gx)
      -- the last part
      have two : ¬ (mode ≠ -1 ∧ (validB mode = false ∨ dirB mode ≠ dirB x.mode)) → ¬ (mt ≠ -1 ∧ mt ≠ clockF mt) → at_vc_2 nx (nodeV l) s mode gid mt K l := by
        intro c1 c2
        rw [if_neg c1, if_neg c2, with_set hg gx (y := attrY x mode gid mt) rfl] at e
        unfold at_vc_2
        rw [h1]
        simp only [Int.toNat_natCast, Nat.zero_add]
        have g5 : ∀ y : Node, (l.set k y)[k]? = some y := fun y => by rw [List.getElem?_set_self hlt]
        have fin : ∀ y : Node, y = attrY x mode gid mt → K (V.tup [V.agg [V.int IntKind.i64 nx, V.lst (List.take l.length (List.drop 0 (nodeV (l.set k y))))], V.int IntKind.i64 0]) [] := fun y q => by
          rw [List.drop_zero, List.take_of_length_le (by simp [nodeV_len]), q]; exact e rfl
        have fin0 : x = attrY x mode gid mt → K (V.tup [V.agg [V.int IntKind.i64 nx, V.lst (List.take l.length (List.drop 0 (nodeV l)))], V.int IntKind.i64 0]) [] := fun q => by
          have := fin x q
          rwa [show l.set k x = l from by rw [← List.getElem?_eq_some_iff.1 gx |>.2]; exact List.set_getElem_self hlt] at this
        have three : ∀ y : Node, (∀ y2 : Node, y2 = (if mt = -1 then y else { y with mtime := mt }) → y2 = attrY x mode gid mt) → at_vc_3 nx (nodeV l) s mode gid mt K (nodeV (l.set k y)) l l := by
          intro y hy
          unfold at_vc_3
          rw [h1]
          simp only [Int.toNat_natCast, Nat.zero_add]
          refine br_iff.2 ⟨fun g => ⟨_, nodeV_put (g := { y with mtime := mt }) (g5 y) rfl, ?_⟩, fun g => ?_⟩ <;> simp only [br_iff, need_iff, andB_t, andB_f, orB_t, orB_f, notB_t, notB_f, leI_t, leI_f, ltI_t, ltI_f, eqI_t, eqI_f, leN_t, leN_f, eqN_t, eqN_f, eqS_t, eqS_f, eqB_t, eqB_f, catOk_t, leC_t] at g
          · rw [List.set_set]
            exact fin _ (hy _ (by rw [if_neg g]))
          · exact fin _ (hy _ (by rw [if_pos g]))
        refine ⟨l, rfl, hb, need_iff.2 ⟨by simp only [br_iff, need_iff, andB_t, andB_f, orB_t, orB_f, notB_t, notB_f, leI_t, leI_f, ltI_t, ltI_f, eqI_t, eqI_f, leN_t, leN_f, eqN_t, eqN_f, eqS_t, eqS_f, eqB_t, eqB_f, catOk_t, leC_t, Int.ofNat_eq_natCast]; omega, need_iff.2 ⟨nodeV_ok hlt, br_iff.2 ⟨fun g => ⟨_, nodeV_put (g := { x with mode := mode }) gx rfl, ?_⟩, fun g => ?_⟩⟩⟩⟩ <;> simp only [br_iff, need_iff, andB_t, andB_f, orB_t, orB_f, notB_t, notB_f, leI_t, leI_f, ltI_t, ltI_f, eqI_t, eqI_f, leN_t, leN_f, eqN_t, eqN_f, eqS_t, eqS_f, eqB_t, eqB_f, catOk_t, leC_t] at g
        · refine br_iff.2 ⟨fun g2 => ⟨_, nodeV_put (g := { x with mode := mode, gid := shortF gid }) (g5 _) rfl, ?_⟩, fun g2 => three _ fun y2 q => ?_⟩ <;> simp only [br_iff, need_iff, andB_t, andB_f, orB_t, orB_f, notB_t, notB_f, leI_t, leI_f, ltI_t, ltI_f, eqI_t, eqI_f, leN_t, leN_f, eqN_t, eqN_f, eqS_t, eqS_f, eqB_t, eqB_f, catOk_t, leC_t] at g2
          · rw [List.set_set]
            refine br_iff.2 ⟨fun g3 => ⟨_, nodeV_put (g := { x with mode := mode, gid := shortF gid, mtime := mt }) (g5 _) rfl, ?_⟩, fun g3 => ?_⟩ <;> simp only [br_iff, need_iff, andB_t, andB_f, orB_t, orB_f, notB_t, notB_f, leI_t, leI_f, ltI_t, ltI_f, eqI_t, eqI_f, leN_t, leN_f, eqN_t, eqN_f, eqS_t, eqS_f, eqB_t, eqB_f, catOk_t, leC_t] at g3
            · rw [List.set_set]
              refine fin _ ?_
              unfold attrY; rw [if_neg g, if_neg g2, if_neg g3]
            · refine fin _ ?_
              unfold attrY; rw [if_neg g, if_neg g2, if_pos g3]
          · rw [q]; unfold attrY; rw [if_neg g, if_pos g2]
            by_cases g3 : mt = -1
            · rw [if_pos g3, if_pos g3]
            · rw [if_neg g3, if_neg g3]
        · refine br_iff.2 ⟨fun g2 => ⟨_, nodeV_put (g := { x with gid := shortF gid }) gx rfl, three _ fun y2 q => ?_⟩, fun g2 => ?_⟩ <;> simp only [br_iff, need_iff, andB_t, andB_f, orB_t, orB_f, notB_t, notB_f, leI_t, leI_f, ltI_t, ltI_f, eqI_t, eqI_f, leN_t, leN_f, eqN_t, eqN_f, eqS_t, eqS_f, eqB_t, eqB_f, catOk_t, leC_t] at g2
          · rw [q]; unfold attrY; rw [if_pos g, if_neg g2]
            by_cases g3 : mt = -1
            · rw [if_pos g3, if_pos g3]
            · rw [if_neg g3, if_neg g3]
          · refine br_iff.2 ⟨fun g3 => ⟨_, nodeV_put (g := { x with mtime := mt }) gx rfl, ?_⟩, fun g3 => ?_⟩ <;> simp only [br_iff, need_iff, andB_t, andB_f, orB_t, orB_f, notB_t, notB_f, leI_t, leI_f, ltI_t, ltI_f, eqI_t, eqI_f, leN_t, leN_f, eqN_t, eqN_f, eqS_t, eqS_f, eqB_t, eqB_f, catOk_t, leC_t] at g3
            · refine fin _ ?_
              unfold attrY; rw [if_pos g, if_pos g2, if_neg g3]
            · refine fin0 ?_
              unfold attrY; rw [if_pos g, if_pos g2, if_pos g3]
      have one : ¬ (mode ≠ -1 ∧ (validB mode = false ∨ dirB mode ≠ dirB x.mode)) → at_vc_1 nx (nodeV l) s mode gid mt K l := by
        intro c1
        unfold at_vc_1
        refine br_iff.2 ⟨fun g => br_iff.2 ⟨fun g2 => ⟨l, rfl, hb, ?_⟩, fun g2 => two c1 ?_⟩, fun g => two c1 ?_⟩ <;> simp only [br_iff, need_iff, andB_t, andB_f, orB_t, orB_f, notB_t, notB_f, leI_t, leI_f, ltI_t, ltI_f, eqI_t, eqI_f, leN_t, leN_f, eqN_t, eqN_f, eqS_t, eqS_f, eqB_t, eqB_f, catOk_t, leC_t] at g
        · simp only [br_iff, need_iff, andB_t, andB_f, orB_t, orB_f, notB_t, notB_f, leI_t, leI_f, ltI_t, ltI_f, eqI_t, eqI_f, leN_t, leN_f, eqN_t, eqN_f, eqS_t, eqS_f, eqB_t, eqB_f, catOk_t, leC_t] at g2
          rw [take_all]
          exact e (by rw [if_neg c1, if_pos ⟨g, g2⟩])
        · simp only [br_iff, need_iff, andB_t, andB_f, orB_t, orB_f, notB_t, notB_f, leI_t, leI_f, ltI_t, ltI_f, eqI_t, eqI_f, leN_t, leN_f, eqN_t, eqN_f, eqS_t, eqS_f, eqB_t, eqB_f, catOk_t, leC_t] at g2
          exact fun q => q.2 g2
        · exact fun q => q.1 g
      rw [h1]
      refine br_iff.2 ⟨fun g => by simp only [br_iff, need_iff, andB_t, andB_f, orB_t, orB_f, notB_t, notB_f, leI_t, leI_f, ltI_t, ltI_f, eqI_t, eqI_f, leN_t, leN_f, eqN_t, eqN_f, eqS_t, eqS_f, eqB_t, eqB_f, catOk_t, leC_t] at g; omega, fun _ => br_iff.2 ⟨fun g => ⟨hml, br_iff.2 ⟨fun g2 => ⟨l, rfl, hb, ?_⟩, fun g2 => ⟨hml, ?_⟩⟩⟩, fun g => one ?_⟩⟩ <;> simp only [br_iff, need_iff, andB_t, andB_f, orB_t, orB_f, notB_t, notB_f, leI_t, leI_f, ltI_t, ltI_f, eqI_t, eqI_f, leN_t, leN_f, eqN_t, eqN_f, eqS_t, eqS_f, eqB_t, eqB_f, catOk_t, leC_t] at g
      · simp only [br_iff, need_iff, andB_t, andB_f, orB_t, orB_f, notB_t, notB_f, leI_t, leI_f, ltI_t, ltI_f, eqI_t, eqI_f, leN_t, leN_f, eqN_t, eqN_f, eqS_t, eqS_f, eqB_t, eqB_f, catOk_t, leC_t] at g2
        rw [take_all]
        exact e (by rw [if_pos ⟨g, .inl g2⟩])
      · simp only [br_iff, need_iff, andB_t, andB_f, orB_t, orB_f, notB_t, notB_f, leI_t, leI_f, ltI_t, ltI_f, eqI_t, eqI_f, leN_t, leN_f, eqN_t, eqN_f, eqS_t, eqS_f, eqB_t, eqB_f, catOk_t, leC_t] at g2
        have gq : l[k]? = some l[k] := List.getElem?_eq_getElem hlt
        generalize l[k] = q at gq
        have rq := nodeV_row gq
        have kq : okRow (nodeV l) (Int.toNat (k : Int)) 11 = true := by simpa using nodeV_ok (l := l) (i := k) hlt
        have nq : andB (leI 0 (k : Int)) (ltI (k : Int) (l.length : Int)) = true := by simp only [br_iff, need_iff, andB_t, andB_f, orB_t, orB_f, notB_t, notB_f, leI_t, leI_f, ltI_t, ltI_f, eqI_t, eqI_f, leN_t, leN_f, eqN_t, eqN_f, eqS_t, eqS_f, eqB_t, eqB_f, catOk_t, leC_t]; omega
        obtain rfl := Option.some.inj (gx.symm.trans gq)
        rw [need_iff, need_iff]
        refine ⟨nq, kq, ?_⟩
        try rw [rq]
        repeat apply Exists.intro
        refine ⟨rfl, ?_⟩
        refine ⟨by omega, br_iff.2 ⟨fun g3 => ⟨l, rfl, hb, ?_⟩, fun g3 => one ?_⟩⟩
        · rw [take_all]
          exact e (by rw [if_pos ⟨g, .inr (by simpa [notB, eqB] using g3)⟩])
        · have g4 : dirB mode = dirB x.mode := by simpa [notB, eqB] using g3
          rintro ⟨_, q | q⟩
          · rw [g2] at q; cases q
          · exact q g4
      · exact fun q => q.1 g
  · exact h.elim
theorem rat_con {n : Nat} (hn : 6 ≤ n) : ConOk (evalF Try.prog cfgN n) 63 attrsCon := by
  intro vs bs K h
  unfold attrsCon at h
  split at h
  · rename_i nx xs s mode gid mt
    obtain ⟨l, rfl, hg, hml, hK⟩ := h
    have hb : l.length ≤ 100000 := by have := hg.2.1; omega
    refine run_of (lp := lpOf []) (by omega) (ct := ctOf [(21, nodeCon), (65, intCon validB), (43, intCon isDirB), (36, shortCon), (72, withCon)])
      (fun k hk => ctOf_ok (ctOf_cons (rno_con (by omega)) (ctOf_cons (rmod_con (by omega)) (ctOf_cons (risd_con (by omega)) (ctOf_cons (rsho_con (by omega)) (ctOf_cons (wt_con (by omega)) (ctOf_nil _))))))) ?_
    rw [rat_vc]
    have e : ∀ {n' : Int} {l' : List Node} {e : Int}, ((n', l'), e) = attrsF nx l s mode gid mt → K (.tup [.agg [.int .i64 n', .lst (nodeV l')], .int .i64 e]) [] := fun q => by rw [← q] at hK; exact hK
    unfold attrsF at e
    have hcl : mt ≠ clockF mt ↔ (mt < 0 ∨ 1099511627776 < mt) := by unfold clockF; omega
    refine ⟨l, rfl, hb, br_iff.2 ⟨fun g => e ?_, fun g1 => ?_⟩⟩
    · simp only [br_iff, need_iff, andB_t, andB_f, orB_t, orB_f, notB_t, notB_f, leI_t, leI_f, ltI_t, ltI_f, eqI_t, eqI_f, leN_t, leN_f, eqN_t, eqN_f, eqS_t, eqS_f, eqB_t, eqB_f, catOk_t, leC_t] at g
      rw [if_pos g]
    simp only [br_iff, need_iff, andB_t, andB_f, orB_t, orB_f, notB_t, notB_f, leI_t, leI_f, ltI_t, ltI_f, eqI_t, eqI_f, leN_t, leN_f, eqN_t, eqN_f, eqS_t, eqS_f, eqB_t, eqB_f, catOk_t, leC_t] at g1
    rw [if_neg (by simp [g1])] at e
    have two : ¬ (mode ≠ -1 ∧ (validB mode = false ∨ dirB mode ≠ dirB (nodeF l s).mode)) → ¬ (mt ≠ -1 ∧ mt ≠ clockF mt) → rat_vc_2 nx (nodeV l) s mode gid mt K l := by
      intro c1 c2
      rw [if_neg c1, if_neg c2] at e
      unfold rat_vc_2
      have fin : ∀ y : Node, y = attrY (nodeF l s) mode gid mt → K (V.tup [V.agg [V.int IntKind.i64 nx, V.lst (List.take l.length (List.drop 0 (nodeV (withF l y))))], V.int IntKind.i64 0]) [] := fun y q => by
        rw [List.drop_zero, List.take_of_length_le (by rw [nodeV_len, with_len]; omega), q]; exact e rfl
      generalize nodeF l s = x at *
      refine br_iff.2 ⟨fun g => br_iff.2 ⟨fun g2 => br_iff.2 ⟨fun g3 => ⟨l, { x with mode := mode, gid := gid, mtime := mt }, rfl, rfl, hb, fin _ ?_⟩, fun g3 => ⟨l, { x with mode := mode, gid := gid }, rfl, rfl, hb, fin _ ?_⟩⟩, fun g2 => br_iff.2 ⟨fun g3 => ⟨l, { x with mode := mode, mtime := mt }, rfl, rfl, hb, fin _ ?_⟩, fun g3 => ⟨l, { x with mode := mode }, rfl, rfl, hb, fin _ ?_⟩⟩⟩,
        fun g => br_iff.2 ⟨fun g2 => br_iff.2 ⟨fun g3 => ⟨l, { x with gid := gid, mtime := mt }, rfl, rfl, hb, fin _ ?_⟩, fun g3 => ⟨l, { x with gid := gid }, rfl, rfl, hb, fin _ ?_⟩⟩, fun g2 => br_iff.2 ⟨fun g3 => ⟨l, { x with mtime := mt }, rfl, rfl, hb, fin _ ?_⟩, fun g3 => ⟨l, x, rfl, rfl, hb, fin _ ?_⟩⟩⟩⟩ <;> simp only [br_iff, need_iff, andB_t, andB_f, orB_t, orB_f, notB_t, notB_f, leI_t, leI_f, ltI_t, ltI_f, eqI_t, eqI_f, leN_t, leN_f, eqN_t, eqN_f, eqS_t, eqS_f, eqB_t, eqB_f, catOk_t, leC_t] at g g2 g3 <;> unfold attrY
      · rw [if_neg g, if_neg g2, if_neg g3, short_id g2]
      · rw [if_neg g, if_neg g2, if_pos g3, short_id g2]
      · rw [if_neg g, if_pos g2, if_neg g3]
      · rw [if_neg g, if_pos g2, if_pos g3]
      · rw [if_pos g, if_neg g2, if_neg g3, short_id g2]
      · rw [if_pos g, if_neg g2, if_pos g3, short_id g2]
      · rw [if_pos g, if_pos g2, if_neg g3]
      · rw [if_pos g, if_pos g2, if_pos g3]
    have one : ¬ (mode ≠ -1 ∧ (validB mode = false ∨ dirB mode ≠ dirB (nodeF l s).mode)) → rat_vc_1 nx (nodeV l) s mode gid mt K l := by
      intro c1
      unfold rat_vc_1
      refine br_iff.2 ⟨fun g => br_iff.2 ⟨fun g2 => e ?_, fun g2 => br_iff.2 ⟨fun g3 => e ?_, fun g3 => two c1 ?_⟩⟩, fun g => two c1 ?_⟩ <;> simp only [br_iff, need_iff, andB_t, andB_f, orB_t, orB_f, notB_t, notB_f, leI_t, leI_f, ltI_t, ltI_f, eqI_t, eqI_f, leN_t, leN_f, eqN_t, eqN_f, eqS_t, eqS_f, eqB_t, eqB_f, catOk_t, leC_t] at g
      · simp only [br_iff, need_iff, andB_t, andB_f, orB_t, orB_f, notB_t, notB_f, leI_t, leI_f, ltI_t, ltI_f, eqI_t, eqI_f, leN_t, leN_f, eqN_t, eqN_f, eqS_t, eqS_f, eqB_t, eqB_f, catOk_t, leC_t] at g2
        rw [if_neg c1, if_pos ⟨g, hcl.2 (.inl g2)⟩]
      · simp only [br_iff, need_iff, andB_t, andB_f, orB_t, orB_f, notB_t, notB_f, leI_t, leI_f, ltI_t, ltI_f, eqI_t, eqI_f, leN_t, leN_f, eqN_t, eqN_f, eqS_t, eqS_f, eqB_t, eqB_f, catOk_t, leC_t] at g3
        rw [if_neg c1, if_pos ⟨g, hcl.2 (.inr g3)⟩]
      · simp only [br_iff, need_iff, andB_t, andB_f, orB_t, orB_f, notB_t, notB_f, leI_t, leI_f, ltI_t, ltI_f, eqI_t, eqI_f, leN_t, leN_f, eqN_t, eqN_f, eqS_t, eqS_f, eqB_t, eqB_f, catOk_t, leC_t] at g2 g3
        exact fun q => by have := hcl.1 q.2; omega
      · exact fun q => q.1 g
    refine br_iff.2 ⟨fun g => ⟨hml, br_iff.2 ⟨fun g2 => e ?_, fun g2 => ⟨hml, mode_le hg s, br_iff.2 ⟨fun g3 => e ?_, fun g3 => one ?_⟩⟩⟩⟩, fun g => one ?_⟩ <;> simp only [br_iff, need_iff, andB_t, andB_f, orB_t, orB_f, notB_t, notB_f, leI_t, leI_f, ltI_t, ltI_f, eqI_t, eqI_f, leN_t, leN_f, eqN_t, eqN_f, eqS_t, eqS_f, eqB_t, eqB_f, catOk_t, leC_t] at g
    · simp only [br_iff, need_iff, andB_t, andB_f, orB_t, orB_f, notB_t, notB_f, leI_t, leI_f, ltI_t, ltI_f, eqI_t, eqI_f, leN_t, leN_f, eqN_t, eqN_f, eqS_t, eqS_f, eqB_t, eqB_f, catOk_t, leC_t] at g2
      rw [if_pos ⟨g, .inl g2⟩]
    · simp only [br_iff, need_iff, andB_t, andB_f, orB_t, orB_f, notB_t, notB_f, leI_t, leI_f, ltI_t, ltI_f, eqI_t, eqI_f, leN_t, leN_f, eqN_t, eqN_f, eqS_t, eqS_f, eqB_t, eqB_f, catOk_t, leC_t] at g2
      rw [isdir_eq hg, valid_dir g2] at g3
      rw [if_pos ⟨g, .inr (by simpa [notB, eqB] using g3)⟩]
    · simp only [br_iff, need_iff, andB_t, andB_f, orB_t, orB_f, notB_t, notB_f, leI_t, leI_f, ltI_t, ltI_f, eqI_t, eqI_f, leN_t, leN_f, eqN_t, eqN_f, eqS_t, eqS_f, eqB_t, eqB_f, catOk_t, leC_t] at g2
      rw [isdir_eq hg, valid_dir g2] at g3
      have g4 : dirB mode = dirB (nodeF l s).mode := by simpa [notB, eqB] using g3
      rintro ⟨_, q | q⟩
      · rw [g2] at q; cases q
      · exact q g4
    · exact fun q => q.1 g
  · exact h.elim
theorem attrs_good {n : Int} {l : List Node} (h : goodT n l) {s mode : Int} {gid : List UInt8} {mt : Int} : goodT (attrsF n l s mode gid mt).1.1 (attrsF n l s mode gid mt).1.2 := by
  unfold attrsF
  split
  · exact h
  · rename_i g1
    split
    · exact h
    · rename_i g2
      split
      · exact h
      · rename_i g3
        obtain ⟨k, x, gx, ei, en, hlt⟩ := has_at (by simpa using g1)
        rw [en] at g2 ⊢
        rw [with_set h gx (y := attrY x mode gid mt) rfl]
        obtain ⟨h1, h2, h3, h4, h5, h6, h7, h8, h9, h10, h11, h12⟩ := sound_iff.1 (h.2.2.2 k x gx).1
        have hd : dirB (attrY x mode gid mt).mode = dirB x.mode := by
          show dirB (if mode = -1 then x.mode else mode) = _
          split
          · rfl
          · rename_i q
            exact Classical.not_not.1 fun w => g2 ⟨q, .inr w⟩
        have hv : validB (attrY x mode gid mt).mode = true := by
          show validB (if mode = -1 then x.mode else mode) = true
          split
          · exact h1
          · rename_i q
            cases w : validB mode with
            | true => rfl
            | false => exact absurd ⟨q, .inl w⟩ g2
        have hc := clock_ok mt
        have hm : 0 ≤ (attrY x mode gid mt).mtime ∧ (attrY x mode gid mt).mtime ≤ 1099511627776 := by
          show 0 ≤ (if mt = -1 then x.mtime else mt) ∧ (if mt = -1 then x.mtime else mt) ≤ 1099511627776
          split
          · exact ⟨h6, h7⟩
          · rename_i q
            have : mt = clockF mt := Classical.not_not.1 fun w => g3 ⟨q, w⟩
            omega
        have hgd : (attrY x mode gid mt).gid.length ≤ 64 := by
          show (if shortF gid = [] then x.gid else shortF gid).length ≤ 64
          split
          · exact h9
          · exact short_ok gid
        exact good_set h gx (sound_iff.2 ⟨hv, h2, h3, h4, h5, hm.1, hm.2, h8, hgd, h10, h11, fun q => h12 (by rw [← hd]; exact q)⟩) rfl rfl hd (.inl rfl)
end Go.Proofs.Ytepehbbagbfmcaa
namespace Go.Proofs.Ytepehbbagbfmcaa
open Go.RowKit
set_option maxRecDepth 100000
set_option linter.unusedVariables false
set_option linter.unusedSimpArgs false
theorem erase_at {l : List Node} {k j : Nat} {z : Node} (h : (l.eraseIdx k)[j]? = some z) : (j < k ∧ l[j]? = some z) ∨ (k ≤ j ∧ l[j + 1]? = some z) := by
  rw [List.getElem?_eraseIdx] at h
  split at h
  · exact .inl ⟨by assumption, h⟩
  · exact .inr ⟨by omega, h⟩
theorem at_erase {l : List Node} {k j : Nat} {z : Node} (h : l[j]? = some z) (hj : j ≠ k) : (j < k ∧ (l.eraseIdx k)[j]? = some z) ∨ (k < j ∧ (l.eraseIdx k)[j - 1]? = some z) := by
  rcases Nat.lt_or_ge j k with q | q
  · exact .inl ⟨q, by rw [List.getElem?_eraseIdx, if_pos q]; exact h⟩
  · refine .inr ⟨by omega, ?_⟩
    rw [List.getElem?_eraseIdx, if_neg (by omega), show j - 1 + 1 = j by omega]; exact h
theorem good_erase {n : Int} {l : List Node} (h : goodT n l) {k : Nat} {x : Node} (gx : l[k]? = some x) (hk : 0 < k) (hc : ∀ (j : Nat) (z : Node), 0 < j → l[j]? = some z → z.par ≠ x.id) : goodT n (l.eraseIdx k) := by
  have hlt := (List.getElem?_eq_some_iff.1 gx).1
  have hle : (l.eraseIdx k).length = l.length - 1 := by rw [List.length_eraseIdx, if_pos hlt]
  have h2 := h.2.1
  refine ⟨by omega, by omega, h.2.2.1, fun j z gz => ?_⟩
  have up : ∃ J, l[J]? = some z ∧ ((j < k ∧ J = j) ∨ (k ≤ j ∧ J = j + 1)) := by
    rcases erase_at gz with ⟨a, b⟩ | ⟨a, b⟩
    · exact ⟨j, b, .inl ⟨a, rfl⟩⟩
    · exact ⟨j + 1, b, .inr ⟨a, rfl⟩⟩
  obtain ⟨J, gJ, hJ⟩ := up
  obtain ⟨o1, o2, o3, o4⟩ := h.2.2.2 J z gJ
  refine ⟨o1, o2, fun q => o3 (by omega), fun q => ?_⟩
  obtain ⟨p1, ⟨K, y, hK, gK, e1, e2⟩, p3, p4⟩ := o4 (by omega)
  refine ⟨p1, ?_, fun i u h0 hij gu => ?_, fun i u hij gu => ?_⟩
  · have hne : K ≠ k := fun q => by
      subst q
      obtain rfl := Option.some.inj (gx.symm.trans gK)
      exact hc J z (by omega) gJ e1.symm
    rcases at_erase gK hne with ⟨a, b⟩ | ⟨a, b⟩
    · exact ⟨K, y, by omega, b, e1, e2⟩
    · exact ⟨K - 1, y, by omega, b, e1, e2⟩
  · rcases erase_at gu with ⟨a, b⟩ | ⟨a, b⟩
    · exact p3 i u h0 (by omega) b
    · exact p3 (i + 1) u (by omega) (by omega) b
  · rcases erase_at gu with ⟨a, b⟩ | ⟨a, b⟩
    · exact good_asc h (by omega) b gJ
    · exact good_asc h (by omega) b gJ
def notP (s : Int) (x : Node) : Bool := decide (x.id ≠ s)
theorem notP_t {s : Int} {x : Node} : (notP s x = true) = (x.id ≠ s) := by simp [notP]
theorem filter_erase {n : Int} {l : List Node} (h : goodT n l) {k : Nat} {x : Node} (gx : l[k]? = some x) : l.filter (notP x.id) = l.eraseIdx k := by
  obtain ⟨hlt, rfl⟩ := List.getElem?_eq_some_iff.1 gx
  have e : l = l.take k ++ l[k] :: l.drop (k + 1) := by rw [← List.drop_eq_getElem_cons hlt, List.take_append_drop]
  rw [List.eraseIdx_eq_take_drop_succ]
  have a1 : (l.take k).filter (notP l[k].id) = l.take k := List.filter_eq_self.2 fun z hz => by
    obtain ⟨j, hj⟩ := List.mem_iff_getElem?.1 hz
    rw [List.getElem?_take] at hj
    split at hj
    · rw [notP_t]; exact fun q => by have := good_uniq h hj gx q; omega
    · cases hj
  have a2 : (l.drop (k + 1)).filter (notP l[k].id) = l.drop (k + 1) := List.filter_eq_self.2 fun z hz => by
    obtain ⟨j, hj⟩ := List.mem_iff_getElem?.1 hz
    rw [List.getElem?_drop] at hj
    rw [notP_t]; exact fun q => by have := good_uniq h hj gx q; omega
  have a3 : notP l[k].id l[k] = false := by rw [← Bool.not_eq_true, notP_t]; simp
  generalize hx : l[k] = x at *
  conv => lhs; rw [e]
  rw [List.filter_append, List.filter_cons, a1, a2, a3]
  rfl
def removeF (n : Int) (l : List Node) (s : Int) (uid : List UInt8) (now : Int) : (Int × List Node) × Int :=
  if hasB l s = false then ((n, l), 8) else if s = 1 then ((n, l), 1) else if childF l s ≠ [] then ((n, l), 23)
  else ((n, withF (l.filter (notP s)) (touchF (nodeF (l.filter (notP s)) (nodeF l s).par) uid now)), 0)
def removeCon : Con := fun vs bs K => match vs, bs with
  | [.agg [.int .i64 n, .lst xs], .int .i64 s, .str uid, .int .i64 now], [] => ∃ l, xs = nodeV l ∧ goodT n l ∧ K (.tup [.agg [.int .i64 (removeF n l s uid now).1.1, .lst (nodeV (removeF n l s uid now).1.2)], .int .i64 (removeF n l s uid now).2]) []
  | _, _ => False
/-- A node without children: no node's parent. -/
theorem child_none {n : Int} {l : List Node} (h : goodT n l) {k : Nat} {x : Node} (gx : l[k]? = some x) (hc : childF l x.id = []) : ∀ (j : Nat) (z : Node), 0 < j → l[j]? = some z → z.par ≠ x.id := by
  intro j z hj gz q
  have hid : z.id ≠ 1 := fun q => by have := (good_head h gz).1 q; omega
  obtain ⟨p, y, hp, gy, e1, e2, e3, e4, _⟩ := good_par h gz hid
  have hpk : p = k := good_uniq h gy gx (by omega)
  subst hpk
  obtain rfl := Option.some.inj (gx.symm.trans gy)
  have hn := good_node h gx
  have hw : withinF l x.id = 0 := by unfold withinF; rw [if_pos hn.2, hn.1, if_pos e2]
  unfold childF at hc
  rw [if_pos hw] at hc
  unfold kids at hc
  rw [List.take_length, List.map_eq_nil_iff, List.filter_eq_nil_iff] at hc
  exact hc z (List.mem_of_getElem? gz) (by rw [kidP_t]; exact ⟨q, hid⟩)
/-- What Remove leaves, before the parent is touched. -/
theorem rem_good {n : Int} {l : List Node} (h : goodT n l) {k : Nat} {x : Node} (gx : l[k]? = some x) (hx : x.id ≠ 1) (hc : childF l x.id = []) : goodT n (l.filter (notP x.id)) ∧ l.filter (notP x.id) = l.eraseIdx k ∧
    ∃ (p : Nat) (y : Node), p < k ∧ l[p]? = some y ∧ (l.eraseIdx k)[p]? = some y ∧ fidx (idP x.par) l = (p : Int) ∧ nodeF (l.filter (notP x.id)) x.par = y ∧ y.id = x.par := by
  have hk : 0 < k := by
    rcases Nat.eq_zero_or_pos k with q | q
    · exact absurd ((good_head h gx).2 q) hx
    · exact q
  have e := filter_erase h gx
  have g := good_erase h gx hk (child_none h gx hc)
  obtain ⟨p, y, hp, gy, p1, p2, p3, p4, _⟩ := par_at h gx hx
  have gy2 : (l.eraseIdx k)[p]? = some y := by rw [List.getElem?_eraseIdx, if_pos hp]; exact gy
  refine ⟨by rw [e]; exact g, e, p, y, hp, gy, gy2, p2, ?_, p1⟩
  rw [e, ← p1]
  exact (good_node g gy2).1
theorem rm_con {n : Nat} (hn : 7 ≤ n) : ConOk (evalF Try.prog cfgN n) 54 removeCon := by
  intro vs bs K h
  unfold removeCon at h
  split at h
  · rename_i nx xs s uid now
    obtain ⟨l, rfl, hg, hK⟩ := h
    have hb : l.length ≤ 100000 := by have := hg.2.1; omega
    refine run_of (lp := lpOf []) (by omega) (ct := ctOf [(53, indexCon), (29, childrenCon), (47, cloneCon), (50, changeCon)])
      (fun k hk => ctOf_ok (ctOf_cons (ix_con (by omega)) (ctOf_cons (ch_con (by omega)) (ctOf_cons (cl_con (by omega)) (ctOf_cons (cg_con (by omega)) (ctOf_nil _)))))) ?_
    rw [rm_vc]
    have e : ∀ {n' : Int} {l' : List Node} {e : Int}, ((n', l'), e) = removeF nx l s uid now → K (.tup [.agg [.int .i64 n', .lst (nodeV l')], .int .i64 e]) [] := fun q => by rw [← q] at hK; exact hK
    unfold removeF at e
    simp only [nodeV_lenL, intV_lenL]
    refine ⟨l, rfl, hb, ?_⟩
    rcases fidx_cases (idP s) l with ⟨h1, h2⟩ | ⟨k, x, h1, gx, h3, h4, hlt⟩
    · rw [h1]
      rw [if_pos (node_no h2).2] at e
      exact br_iff.2 ⟨fun _ => ⟨l, rfl, hb, by rw [take_all]; exact e rfl⟩, fun g => by simp only [br_iff, need_iff, andB_t, andB_f, orB_t, orB_f, notB_t, notB_f, leI_t, leI_f, ltI_t, ltI_f, eqI_t, eqI_f, leN_t, leN_f, eqN_t, eqN_f, eqS_t, eqS_f, eqB_t, eqB_f, catOk_t, leC_t] at g; omega⟩
    · obtain ⟨hh, en, ei⟩ := has_of (n := nx) gx h3 h4
      rw [h1]
      rw [if_neg (by simp [hh]), en] at e
      refine br_iff.2 ⟨fun g => by simp only [br_iff, need_iff, andB_t, andB_f, orB_t, orB_f, notB_t, notB_f, leI_t, leI_f, ltI_t, ltI_f, eqI_t, eqI_f, leN_t, leN_f, eqN_t, eqN_f, eqS_t, eqS_f, eqB_t, eqB_f, catOk_t, leC_t] at g; omega, fun _ => br_iff.2 ⟨fun g => ⟨l, rfl, hb, ?_⟩, fun g2 => ⟨l, rfl, hg, br_iff.2 ⟨fun g => ⟨l, rfl, hb, ?_⟩, fun g3 => ⟨l, rfl, hb, ?_⟩⟩⟩⟩⟩
      · simp only [br_iff, need_iff, andB_t, andB_f, orB_t, orB_f, notB_t, notB_f, leI_t, leI_f, ltI_t, ltI_f, eqI_t, eqI_f, leN_t, leN_f, eqN_t, eqN_f, eqS_t, eqS_f, eqB_t, eqB_f, catOk_t, leC_t] at g
        rw [take_all]; exact e (by rw [if_pos g])
      · simp only [br_iff, need_iff, andB_t, andB_f, orB_t, orB_f, notB_t, notB_f, leI_t, leI_f, ltI_t, ltI_f, eqI_t, eqI_f, leN_t, leN_f, eqN_t, eqN_f, eqS_t, eqS_f, eqB_t, eqB_f, catOk_t, leC_t] at g2 g
        have : childF l s ≠ [] := fun q => by rw [q] at g; simp at g
        rw [take_all]; exact e (by rw [if_neg g2, if_pos this])
      · simp only [br_iff, need_iff, andB_t, andB_f, orB_t, orB_f, notB_t, notB_f, leI_t, leI_f, ltI_t, ltI_f, eqI_t, eqI_f, leN_t, leN_f, eqN_t, eqN_f, eqS_t, eqS_f, eqB_t, eqB_f, catOk_t, leC_t] at g2 g3
        have hc : childF l s = [] := List.eq_nil_of_length_eq_zero (by omega)
        rw [if_neg g2, if_neg (by simp [hc])] at e
        obtain ⟨r1, r2, p, y, hp, gy, gy2, p2, p3, p4⟩ := rem_good hg gx (by rw [ei]; exact g2) (by rw [ei]; exact hc)
        rw [ei] at r1 r2 p3
        rw [p3, with_set (k := p) (x := y) (y := touchF y uid now) r1 (by rw [r2]; exact gy2) rfl, r2] at e
        have gq : l[k]? = some l[k] := List.getElem?_eq_getElem hlt
        generalize l[k] = q at gq
        have rq := nodeV_row gq
        have kq : okRow (nodeV l) (Int.toNat (k : Int)) 11 = true := by simpa using nodeV_ok (l := l) (i := k) hlt
        have nq : andB (leI 0 (k : Int)) (ltI (k : Int) (l.length : Int)) = true := by simp only [br_iff, need_iff, andB_t, andB_f, orB_t, orB_f, notB_t, notB_f, leI_t, leI_f, ltI_t, ltI_f, eqI_t, eqI_f, leN_t, leN_f, eqN_t, eqN_f, eqS_t, eqS_f, eqB_t, eqB_f, catOk_t, leC_t]; omega
        obtain rfl := Option.some.inj (gx.symm.trans gq)
        rw [need_iff, need_iff]
        refine ⟨nq, kq, ?_⟩
        try rw [rq]
        repeat apply Exists.intro
        refine ⟨rfl, ?_⟩
        have hv := sound_iff.1 (hg.2.2.2 p y gy).1
        have hset : (l.set p (touchF y uid now)).length = l.length := by simp
        refine ⟨l, take_all l, hb, l, p, y, rfl, rfl, hb, p2, gy, ⟨hv.2.1, hv.2.2.1⟩, ?_⟩
        have ek : addI .i64 (k : Int) 1 = ((k + 1 : Nat) : Int) := by rw [addI_i64 (by omega) (by omega)]; omega
        rw [ek]
        have fin : (l.set p (touchF y uid now)).eraseIdx k = (l.eraseIdx k).set p (touchF y uid now) := by
          apply List.ext_getElem?
          intro j
          rw [List.getElem?_eraseIdx, List.getElem?_set, List.getElem?_set, List.getElem?_set, List.getElem?_eraseIdx]
          have q1 : (l.eraseIdx k).length = l.length - 1 := by rw [List.length_eraseIdx, if_pos hlt]
          by_cases w : p = j
          · subst w
            rw [if_pos hp, if_pos rfl, if_pos (by omega), if_pos rfl, if_pos (by omega)]
          · by_cases w2 : j < k
            · simp [w, w2]
            · have w3 : p ≠ j + 1 := by omega
              simp [w, w2, w3]
        refine need_iff.2 ⟨nodeV_head _, need_iff.2 ⟨by simp only [br_iff, need_iff, andB_t, andB_f, orB_t, orB_f, notB_t, notB_f, leI_t, leI_f, ltI_t, ltI_f, eqI_t, eqI_f, leN_t, leN_f, eqN_t, eqN_f, eqS_t, eqS_f, eqB_t, eqB_f, catOk_t, leC_t, Int.ofNat_eq_natCast]; omega, need_iff.2 ⟨nodeV_head _, need_iff.2 ⟨by simp only [br_iff, need_iff, andB_t, andB_f, orB_t, orB_f, notB_t, notB_f, leI_t, leI_f, ltI_t, ltI_f, eqI_t, eqI_f, leN_t, leN_f, eqN_t, eqN_f, eqS_t, eqS_f, eqB_t, eqB_f, catOk_t, leC_t, Int.ofNat_eq_natCast]; omega, need_iff.2 ⟨?_, need_iff.2 ⟨nodeV_head _, ?_⟩⟩⟩⟩⟩⟩
        · rw [nodeV_drop, nodeV_take]; exact nodeV_head _
        · have elen : (List.take ((Int.ofNat l.length).toNat - ((k + 1 : Nat) : Int).toNat) (List.drop (0 + ((k + 1 : Nat) : Int).toNat) (nodeV (l.set p (touchF y uid now))))) = nodeV ((l.set p (touchF y uid now)).drop (k + 1)) := by
            rw [nodeV_drop, Nat.zero_add, Int.toNat_natCast, List.take_of_length_le (by rw [nodeV_len, List.length_drop, hset]; simp)]
          rw [elen, nodeV_len, List.length_drop, hset]
          simp only [Int.toNat_natCast, Nat.sub_zero, Nat.zero_add]
          refine br_iff.2 ⟨fun _ => ?_, fun g => by simp only [br_iff, need_iff, andB_t, andB_f, orB_t, orB_f, notB_t, notB_f, leI_t, leI_f, ltI_t, ltI_f, eqI_t, eqI_f, leN_t, leN_f, eqN_t, eqN_f, eqS_t, eqS_f, eqB_t, eqB_f, catOk_t, leC_t] at g; omega⟩
          have efin : List.take (k + (l.length - (k + 1))) (List.drop 0 (List.take k (nodeV (l.set p (touchF y uid now))) ++ nodeV ((l.set p (touchF y uid now)).drop (k + 1)) ++ List.drop (k + (l.length - (k + 1))) (nodeV (l.set p (touchF y uid now))))) = nodeV ((l.eraseIdx k).set p (touchF y uid now)) := by
            rw [← fin, List.eraseIdx_eq_take_drop_succ, List.drop_zero, nodeV_take, ← nodeV_app]
            rw [List.take_append_of_le_length (by rw [List.length_append, nodeV_len, nodeV_len, List.length_take, List.length_drop, hset]; omega)]
            rw [List.take_of_length_le (by rw [List.length_append, nodeV_len, nodeV_len, List.length_take, List.length_drop, hset]; omega)]
          rw [efin]
          exact e rfl
  · exact h.elim
theorem keep_yes {l : List Node} {s : Int} {k : Nat} {f : Node} (gf : l[k]? = some f) (h : f.id ≠ s) : (l.take (k + 1)).filter (notP s) = (l.take k).filter (notP s) ++ [f] := by
  obtain ⟨hk, rfl⟩ := List.getElem?_eq_some_iff.1 gf
  rw [List.take_succ_eq_append_getElem hk, List.filter_append]
  simp [notP, h]
theorem keep_no {l : List Node} {s : Int} {k : Nat} {f : Node} (gf : l[k]? = some f) (h : f.id = s) : (l.take (k + 1)).filter (notP s) = (l.take k).filter (notP s) := by
  obtain ⟨hk, rfl⟩ := List.getElem?_eq_some_iff.1 gf
  rw [List.take_succ_eq_append_getElem hk, List.filter_append]
  simp [notP, h]
theorem rrm_con {n : Nat} (hn : 4 ≤ n) : ConOk (evalF Try.prog cfgN n) 59 removeCon := by
  intro vs bs K h
  unfold removeCon at h
  split at h
  · rename_i nx xs s uid now
    obtain ⟨l, rfl, hg, hK⟩ := h
    have hb : l.length ≤ 100000 := by have := hg.2.1; omega
    have h1024 := hg.2.1
    refine run_of (lp := lpOf [(10, rmL fun _ _ x m => ∃ k : Nat, x.i = (k : Int) ∧ k + m = l.length ∧ x.ys = nodeV ((l.take k).filter (notP s)) ∧ x.n = ((l.take k).filter (notP s)).length ∧ x.m = ((l.take k).filter (notP s)).length)]) (by omega) (ct := ctOf [(21, nodeCon), (30, childrenCon), (70, movedCon)])
      (fun k hk => ctOf_ok (ctOf_cons (rno_con (by omega)) (ctOf_cons (rc_con (by omega)) (ctOf_cons (mv_con (by omega)) (ctOf_nil _))))) ?_
    rw [rrm_vc]
    have e : ∀ {n' : Int} {l' : List Node} {e : Int}, ((n', l'), e) = removeF nx l s uid now → K (.tup [.agg [.int .i64 n', .lst (nodeV l')], .int .i64 e]) [] := fun q => by rw [← q] at hK; exact hK
    unfold removeF at e
    simp only [nodeV_lenL, intV_lenL]
    refine ⟨l, rfl, hb, br_iff.2 ⟨fun g => e ?_, fun g1 => br_iff.2 ⟨fun g => e ?_, fun g2 => ⟨l, rfl, hg, br_iff.2 ⟨fun g => e ?_, fun g3 => ?_⟩⟩⟩⟩⟩
    · simp only [br_iff, need_iff, andB_t, andB_f, orB_t, orB_f, notB_t, notB_f, leI_t, leI_f, ltI_t, ltI_f, eqI_t, eqI_f, leN_t, leN_f, eqN_t, eqN_f, eqS_t, eqS_f, eqB_t, eqB_f, catOk_t, leC_t] at g
      rw [if_pos g]
    · simp only [br_iff, need_iff, andB_t, andB_f, orB_t, orB_f, notB_t, notB_f, leI_t, leI_f, ltI_t, ltI_f, eqI_t, eqI_f, leN_t, leN_f, eqN_t, eqN_f, eqS_t, eqS_f, eqB_t, eqB_f, catOk_t, leC_t] at g1 g
      rw [if_neg (by simp [g1]), if_pos g]
    · simp only [br_iff, need_iff, andB_t, andB_f, orB_t, orB_f, notB_t, notB_f, leI_t, leI_f, ltI_t, ltI_f, eqI_t, eqI_f, leN_t, leN_f, eqN_t, eqN_f, eqS_t, eqS_f, eqB_t, eqB_f, catOk_t, leC_t] at g1 g2 g
      have : childF l s ≠ [] := fun q => by rw [q] at g; simp at g
      rw [if_neg (by simp [g1]), if_neg g2, if_pos this]
    · simp only [br_iff, need_iff, andB_t, andB_f, orB_t, orB_f, notB_t, notB_f, leI_t, leI_f, ltI_t, ltI_f, eqI_t, eqI_f, leN_t, leN_f, eqN_t, eqN_f, eqS_t, eqS_f, eqB_t, eqB_f, catOk_t, leC_t] at g1 g2 g3
      have hc : childF l s = [] := List.eq_nil_of_length_eq_zero (by omega)
      rw [if_neg (by simp [g1]), if_neg g2, if_neg (by simp [hc])] at e
      refine ⟨⟨l.length, by omega, 0, rfl, by omega, rfl, rfl, rfl⟩, ?_⟩
      rintro ⟨a, b, ys, i⟩ m ⟨k, hi, hk, e1, e2, e3⟩
      dsimp only at hi e1 e2 e3 ⊢
      subst hi e1 e2 e3
      have hkl : ((l.take k).filter (notP s)).length ≤ k := Nat.le_trans (List.length_filter_le _ _) (by rw [List.length_take]; omega)
      rw [br_iff]
      refine ⟨fun hlt => ?_, fun hge => ?_⟩
      · have hlt : k < l.length := by simp only [br_iff, need_iff, andB_t, andB_f, orB_t, orB_f, notB_t, notB_f, leI_t, leI_f, ltI_t, ltI_f, eqI_t, eqI_f, leN_t, leN_f, eqN_t, eqN_f, eqS_t, eqS_f, eqB_t, eqB_f, catOk_t, leC_t] at hlt; omega
        have gf : l[k]? = some l[k] := List.getElem?_eq_getElem hlt
        generalize l[k] = f at gf
        have rf := nodeV_row gf
        have kf : okRow (nodeV l) (Int.toNat (k : Int)) 11 = true := by simpa using nodeV_ok (l := l) (i := k) hlt
        have nf : andB (leI 0 (k : Int)) (ltI (k : Int) (l.length : Int)) = true := by simp only [br_iff, need_iff, andB_t, andB_f, orB_t, orB_f, notB_t, notB_f, leI_t, leI_f, ltI_t, ltI_f, eqI_t, eqI_f, leN_t, leN_f, eqN_t, eqN_f, eqS_t, eqS_f, eqB_t, eqB_f, catOk_t, leC_t]; omega
        rw [need_iff, need_iff]
        refine ⟨nf, kf, ?_⟩
        try rw [rf]
        repeat apply Exists.intro
        refine ⟨rfl, ?_⟩
        refine br_iff.2 ⟨fun g4 => ?_, fun g4 => ⟨by trivial, m - 1, by omega, k + 1, by rw [addI_i64 (by omega) (by omega)]; omega, by omega, ?_⟩⟩
        · skip
          rw [need_iff, need_iff]
          refine ⟨nf, kf, ?_⟩
          try rw [rf]
          repeat apply Exists.intro
          refine ⟨rfl, ?_⟩
          simp only [br_iff, need_iff, andB_t, andB_f, orB_t, orB_f, notB_t, notB_f, leI_t, leI_f, ltI_t, ltI_f, eqI_t, eqI_f, leN_t, leN_f, eqN_t, eqN_f, eqS_t, eqS_f, eqB_t, eqB_f, catOk_t, leC_t] at g4
          refine need_iff.2 ⟨nodeV_head _, app_br rfl (nodeV_len _) (by omega) ⟨by trivial, m - 1, by omega, k + 1, by rw [addI_i64 (by omega) (by omega)]; omega, by omega, ?_, ?_, ?_⟩⟩
          · rw [keep_yes gf g4, List.drop_zero, ← nodeV_add]; rfl
          · rw [keep_yes gf g4]; simp
          · rw [keep_yes gf g4]; simp
        · simp only [br_iff, need_iff, andB_t, andB_f, orB_t, orB_f, notB_t, notB_f, leI_t, leI_f, ltI_t, ltI_f, eqI_t, eqI_f, leN_t, leN_f, eqN_t, eqN_f, eqS_t, eqS_f, eqB_t, eqB_f, catOk_t, leC_t] at g4
          exact ⟨by rw [keep_no gf g4], by rw [keep_no gf g4], by rw [keep_no gf g4]⟩
      · have : k = l.length := by simp only [br_iff, need_iff, andB_t, andB_f, orB_t, orB_f, notB_t, notB_f, leI_t, leI_f, ltI_t, ltI_f, eqI_t, eqI_f, leN_t, leN_f, eqN_t, eqN_f, eqS_t, eqS_f, eqB_t, eqB_f, catOk_t, leC_t] at hge; omega
        subst this
        rw [List.take_length] at hkl ⊢
        obtain ⟨k, x, gx, ei, en, hlt⟩ := has_at g1
        obtain ⟨r1, r2, p, y, hp, gy, gy2, p2, p3, p4⟩ := rem_good hg gx (by rw [ei]; exact g2) (by rw [ei]; exact hc)
        rw [ei] at r1 r2 p3
        rw [en] at e ⊢
        refine ⟨l.filter (notP s), by rw [List.drop_zero, List.take_of_length_le (by rw [nodeV_len]; omega)], by omega, vers_ok r1 _, ?_⟩
        rw [List.drop_zero, List.take_of_length_le (by rw [nodeV_len, with_len]; omega)]
        exact e rfl
  · exact h.elim
theorem remove_good {n : Int} {l : List Node} (h : goodT n l) {s : Int} {uid : List UInt8} {now : Int} : goodT (removeF n l s uid now).1.1 (removeF n l s uid now).1.2 := by
  unfold removeF
  split
  · exact h
  · rename_i g1
    split
    · exact h
    · rename_i g2
      split
      · exact h
      · rename_i g3
        obtain ⟨k, x, gx, ei, en, hlt⟩ := has_at (by simpa using g1)
        obtain ⟨r1, r2, p, y, hp, gy, gy2, p2, p3, p4⟩ := rem_good h gx (by rw [ei]; exact g2) (by rw [ei]; exact Classical.not_not.1 g3)
        rw [ei] at r1 r2 p3
        rw [en, p3]
        exact good_touch (k := p) (x := y) r1 (by rw [r2]; exact gy2) (h.2.2.2 p y gy).1 uid now rfl rfl rfl rfl
end Go.Proofs.Ytepehbbagbfmcaa
namespace Go.Proofs.Ytepehbbagbfmcaa
open Go.RowKit
set_option maxRecDepth 100000
set_option linter.unusedVariables false
set_option linter.unusedSimpArgs false
def callF (n : Int) (l : List Node) (kind id : Int) (name : List UInt8) (mode : Int) (uid gid : List UInt8) (size : Int) (data : List UInt8) (now : Int) : (Int × List Node) × Int × Int :=
  if kind = 1 then createF n l id name mode uid gid now else if kind = 2 then ((removeF n l id uid now).1, 0, (removeF n l id uid now).2) else if kind = 3 then writeF n l id size data uid now
  else if kind = 4 then ((resizeF n l id size uid now).1, 0, (resizeF n l id size uid now).2) else if kind = 5 then ((renameF n l id name uid now).1, 0, (renameF n l id name uid now).2)
  else ((attrsF n l id mode gid size).1, 0, (attrsF n l id mode gid size).2)

def didCon : Con := fun vs bs K => match vs, bs with
  | [.agg [.int .i64 n, .lst xs], .agg [.int .i64 kind, .int .i64 id, .str name, .int .i64 mode, .str uid, .str gid, .int .i64 size, .str data, .int .i64 now]], [] => ∃ l, xs = nodeV l ∧ goodT n l ∧ size ≤ 9223372036854775807 ∧ mode ≤ 9223372036854775807 ∧ name.length ≤ 9223372036854775807 ∧ data.length ≤ 1000000 ∧
      K (.tup [.agg [.int .i64 (callF n l kind id name mode uid gid size data now).1.1, .lst (nodeV (callF n l kind id name mode uid gid size data now).1.2)], .int .i64 (callF n l kind id name mode uid gid size data now).2.1, .int .i64 (callF n l kind id name mode uid gid size data now).2.2]) []
  | _, _ => False

structure iaC where
  next : Int
  xs : List (List V)
  un : Int
  us : List (List V)
  cnt : Int
structure iaX where
  ch : Int
  go : Int
  i : Int
def iaSt (c : iaC) (x : iaX) : St := ⟨[(2, .ptr 0 0 0), (5, .ptr 1 0 0), (8, .int .i64 x.ch), (9, .int .i64 x.go), (47, .int .i64 c.cnt), (48, .int .i64 x.i)], [(0, ⟨true, true, true, [[.int .i64 c.next, .lst c.xs]], 0⟩), (1, ⟨true, true, true, [[.int .i64 c.un, .lst c.us]], 0⟩)]⟩
set_option maxHeartbeats 4000000 in
def iaUn (s : St) : Option (iaC × iaX) :=
  match s with
  | ⟨[(q0, .ptr q1 q2 q3), (q4, .ptr q5 q6 q7), (q8, .int .i64 ch), (q9, .int .i64 go), (q10, .int .i64 cnt), (q11, .int .i64 i)], [(q12, ⟨true, true, true, [[.int .i64 next, .lst xs]], q13⟩), (q14, ⟨true, true, true, [[.int .i64 un, .lst us]], q15⟩)]⟩ => bif Nat.beq q0 2 && Nat.beq q1 0 && Nat.beq q2 0 && Nat.beq q3 0 && Nat.beq q4 5 && Nat.beq q5 1 && Nat.beq q6 0 && Nat.beq q7 0 && Nat.beq q8 8 && Nat.beq q9 9 && Nat.beq q10 47 && Nat.beq q11 48 && Nat.beq q12 0 && Nat.beq q13 0 && Nat.beq q14 1 && Nat.beq q15 0 then some (⟨next, xs, un, us, cnt⟩, ⟨ch, go, i⟩) else none
  | _ => none
set_option maxHeartbeats 4000000 in
def iaL (inv : iaC → iaX → iaX → Nat → Prop) : LoopS where
  C := iaC
  X := iaX
  st := iaSt
  un := iaUn
  ok := by
    intro s c x h
    unfold iaUn at h
    split at h
    · simp only [Bool.cond_eq_ite] at h
      split at h
      · rename_i hg
        simp only [Bool.and_eq_true, Nat.beq_eq] at hg
        obtain ⟨⟨⟨⟨⟨⟨⟨⟨⟨⟨⟨⟨⟨⟨⟨rfl, rfl⟩, rfl⟩, rfl⟩, rfl⟩, rfl⟩, rfl⟩, rfl⟩, rfl⟩, rfl⟩, rfl⟩, rfl⟩, rfl⟩, rfl⟩, rfl⟩, rfl⟩ := hg
        cases h
        rfl
      · cases h
    · cases h
  inv := inv

structure ibC where
  next : Int
  xs : List (List V)
  un : Int
  us : List (List V)
  ch : Int
  go : Int
  cnt : Int
structure ibX where
  i : Int
def ibSt (c : ibC) (x : ibX) : St := ⟨[(2, .ptr 0 0 0), (5, .ptr 1 0 0), (8, .int .i64 c.ch), (9, .int .i64 c.go), (78, .int .i64 c.cnt), (79, .int .i64 x.i)], [(0, ⟨true, true, true, [[.int .i64 c.next, .lst c.xs]], 0⟩), (1, ⟨true, true, true, [[.int .i64 c.un, .lst c.us]], 0⟩)]⟩
set_option maxHeartbeats 4000000 in
def ibUn (s : St) : Option (ibC × ibX) :=
  match s with
  | ⟨[(q0, .ptr q1 q2 q3), (q4, .ptr q5 q6 q7), (q8, .int .i64 ch), (q9, .int .i64 go), (q10, .int .i64 cnt), (q11, .int .i64 i)], [(q12, ⟨true, true, true, [[.int .i64 next, .lst xs]], q13⟩), (q14, ⟨true, true, true, [[.int .i64 un, .lst us]], q15⟩)]⟩ => bif Nat.beq q0 2 && Nat.beq q1 0 && Nat.beq q2 0 && Nat.beq q3 0 && Nat.beq q4 5 && Nat.beq q5 1 && Nat.beq q6 0 && Nat.beq q7 0 && Nat.beq q8 8 && Nat.beq q9 9 && Nat.beq q10 78 && Nat.beq q11 79 && Nat.beq q12 0 && Nat.beq q13 0 && Nat.beq q14 1 && Nat.beq q15 0 then some (⟨next, xs, un, us, ch, go, cnt⟩, ⟨i⟩) else none
  | _ => none
set_option maxHeartbeats 4000000 in
def ibL (inv : ibC → ibX → ibX → Nat → Prop) : LoopS where
  C := ibC
  X := ibX
  st := ibSt
  un := ibUn
  ok := by
    intro s c x h
    unfold ibUn at h
    split at h
    · simp only [Bool.cond_eq_ite] at h
      split at h
      · rename_i hg
        simp only [Bool.and_eq_true, Nat.beq_eq] at hg
        obtain ⟨⟨⟨⟨⟨⟨⟨⟨⟨⟨⟨⟨⟨⟨⟨rfl, rfl⟩, rfl⟩, rfl⟩, rfl⟩, rfl⟩, rfl⟩, rfl⟩, rfl⟩, rfl⟩, rfl⟩, rfl⟩, rfl⟩, rfl⟩, rfl⟩, rfl⟩ := hg
        cases h
        rfl
      · cases h
    · cases h
  inv := inv

theorem did_vc (next : Int) (xs : List (List V)) (kind id : Int) (name : List UInt8) (mode : Int) (uid gid : List UInt8) (size : Int) (data : List UInt8) (now : Int) (K : V → List Bk → Prop) : vcF Try.prog cfgN (ctOf [(33, createCon), (54, removeCon), (22, writeCon), (55, resizeCon), (56, renameCon), (57, attrsCon)]) (lpOf []) 31 [.agg [.int .i64 next, .lst xs], .agg [.int .i64 kind, .int .i64 id, .str name, .int .i64 mode, .str uid, .str gid, .int .i64 size, .str data, .int .i64 now]] [] K = (
  br (eqI kind 1) (
    ∃ l12 : List Node, ((xs : List (List V)) = nodeV l12) ∧ (
    (goodT next l12) ∧ (
    (((name.length : Nat) ≤ 9223372036854775807)) ∧ (
    (((mode : Int) ≤ 9223372036854775807)) ∧ (
    K (V.tup [V.agg [V.int IntKind.i64 (createF next l12 id name mode uid gid now).fst.1, V.lst (nodeV (createF next l12 id name mode uid gid now).fst.2)], V.int IntKind.i64 (createF next l12 id name mode uid gid now).snd.1, V.int IntKind.i64 (createF next l12 id name mode uid gid now).snd.2]) []))))) (
    br (eqI kind 2) (
      ∃ l12 : List Node, ((xs : List (List V)) = nodeV l12) ∧ (
      (goodT next l12) ∧ (
      K (V.tup [V.agg [V.int IntKind.i64 (removeF next l12 id uid now).fst.1, V.lst (nodeV (removeF next l12 id uid now).fst.2)], V.int IntKind.i64 0, V.int IntKind.i64 (removeF next l12 id uid now).2]) []))) (
      br (eqI kind 3) (
        ∃ l12 : List Node, ((xs : List (List V)) = nodeV l12) ∧ (
        (goodT next l12) ∧ (
        (((size : Int) ≤ 9223372036854775807)) ∧ (
        (((data.length : Nat) ≤ 1000000)) ∧ (
        K (V.tup [V.agg [V.int IntKind.i64 (writeF next l12 id size data uid now).fst.1, V.lst (nodeV (writeF next l12 id size data uid now).fst.2)], V.int IntKind.i64 (writeF next l12 id size data uid now).snd.1, V.int IntKind.i64 (writeF next l12 id size data uid now).snd.2]) []))))) (
        br (eqI kind 4) (
          ∃ l12 : List Node, ((xs : List (List V)) = nodeV l12) ∧ (
          (goodT next l12) ∧ (
          K (V.tup [V.agg [V.int IntKind.i64 (resizeF next l12 id size uid now).fst.1, V.lst (nodeV (resizeF next l12 id size uid now).fst.2)], V.int IntKind.i64 0, V.int IntKind.i64 (resizeF next l12 id size uid now).2]) []))) (
          br (eqI kind 5) (
            ∃ l12 : List Node, ((xs : List (List V)) = nodeV l12) ∧ (
            (goodT next l12) ∧ (
            (((name.length : Nat) ≤ 9223372036854775807)) ∧ (
            K (V.tup [V.agg [V.int IntKind.i64 (renameF next l12 id name uid now).fst.1, V.lst (nodeV (renameF next l12 id name uid now).fst.2)], V.int IntKind.i64 0, V.int IntKind.i64 (renameF next l12 id name uid now).2]) [])))) (
            ∃ l12 : List Node, ((xs : List (List V)) = nodeV l12) ∧ (
            (goodT next l12) ∧ (
            (((mode : Int) ≤ 9223372036854775807)) ∧ (
            K (V.tup [V.agg [V.int IntKind.i64 (attrsF next l12 id mode gid size).fst.1, V.lst (nodeV (attrsF next l12 id mode gid size).fst.2)], V.int IntKind.i64 0, V.int IntKind.i64 (attrsF next l12 id mode gid size).2]) []))))))))) := by kernel_rfl

theorem want_vc (next : Int) (xs : List (List V)) (kind id : Int) (name : List UInt8) (mode : Int) (uid gid : List UInt8) (size : Int) (data : List UInt8) (now : Int) (K : V → List Bk → Prop) : vcF Try.prog cfgN (ctOf [(58, createCon), (59, removeCon), (60, writeCon), (61, resizeCon), (62, renameCon), (63, attrsCon)]) (lpOf []) 32 [.agg [.int .i64 next, .lst xs], .agg [.int .i64 kind, .int .i64 id, .str name, .int .i64 mode, .str uid, .str gid, .int .i64 size, .str data, .int .i64 now]] [] K = (
  br (eqI kind 1) (
    ∃ l12 : List Node, ((xs : List (List V)) = nodeV l12) ∧ (
    (goodT next l12) ∧ (
    (((name.length : Nat) ≤ 9223372036854775807)) ∧ (
    (((mode : Int) ≤ 9223372036854775807)) ∧ (
    K (V.tup [V.agg [V.int IntKind.i64 (createF next l12 id name mode uid gid now).fst.1, V.lst (nodeV (createF next l12 id name mode uid gid now).fst.2)], V.int IntKind.i64 (createF next l12 id name mode uid gid now).snd.1, V.int IntKind.i64 (createF next l12 id name mode uid gid now).snd.2]) []))))) (
    br (eqI kind 2) (
      ∃ l12 : List Node, ((xs : List (List V)) = nodeV l12) ∧ (
      (goodT next l12) ∧ (
      K (V.tup [V.agg [V.int IntKind.i64 (removeF next l12 id uid now).fst.1, V.lst (nodeV (removeF next l12 id uid now).fst.2)], V.int IntKind.i64 0, V.int IntKind.i64 (removeF next l12 id uid now).2]) []))) (
      br (eqI kind 3) (
        ∃ l12 : List Node, ((xs : List (List V)) = nodeV l12) ∧ (
        (goodT next l12) ∧ (
        (((size : Int) ≤ 9223372036854775807)) ∧ (
        (((data.length : Nat) ≤ 1000000)) ∧ (
        K (V.tup [V.agg [V.int IntKind.i64 (writeF next l12 id size data uid now).fst.1, V.lst (nodeV (writeF next l12 id size data uid now).fst.2)], V.int IntKind.i64 (writeF next l12 id size data uid now).snd.1, V.int IntKind.i64 (writeF next l12 id size data uid now).snd.2]) []))))) (
        br (eqI kind 4) (
          ∃ l12 : List Node, ((xs : List (List V)) = nodeV l12) ∧ (
          (goodT next l12) ∧ (
          K (V.tup [V.agg [V.int IntKind.i64 (resizeF next l12 id size uid now).fst.1, V.lst (nodeV (resizeF next l12 id size uid now).fst.2)], V.int IntKind.i64 0, V.int IntKind.i64 (resizeF next l12 id size uid now).2]) []))) (
          br (eqI kind 5) (
            ∃ l12 : List Node, ((xs : List (List V)) = nodeV l12) ∧ (
            (goodT next l12) ∧ (
            (((name.length : Nat) ≤ 9223372036854775807)) ∧ (
            K (V.tup [V.agg [V.int IntKind.i64 (renameF next l12 id name uid now).fst.1, V.lst (nodeV (renameF next l12 id name uid now).fst.2)], V.int IntKind.i64 0, V.int IntKind.i64 (renameF next l12 id name uid now).2]) [])))) (
            ∃ l12 : List Node, ((xs : List (List V)) = nodeV l12) ∧ (
            (goodT next l12) ∧ (
            (((mode : Int) ≤ 9223372036854775807)) ∧ (
            K (V.tup [V.agg [V.int IntKind.i64 (attrsF next l12 id mode gid size).fst.1, V.lst (nodeV (attrsF next l12 id mode gid size).fst.2)], V.int IntKind.i64 0, V.int IntKind.i64 (attrsF next l12 id mode gid size).2]) []))))))))) := by kernel_rfl

theorem lca_vc (next : Int) (xs : List (List V)) (kind id : Int) (name : List UInt8) (mode : Int) (uid gid : List UInt8) (size : Int) (data : List UInt8) (now : Int) (K : V → List Bk → Prop) : vcF Try.prog cfgN (ctOf [(15, smallCon), (20, lightCon), (11, okCon), (17, rightCon), (16, rightCon), (31, didCon), (32, didCon), (12, sameCon)]) (lpOf []) 9 [.agg [.int .i64 next, .lst xs], .agg [.int .i64 kind, .int .i64 id, .str name, .int .i64 mode, .str uid, .str gid, .int .i64 size, .str data, .int .i64 now]] [] K = (
  ∃ l12 : List Node, ((xs : List (List V)) = nodeV l12) ∧ (
  (shortL l12) ∧ (
  br (notB (smallT l12)) (
    K (V.bool true) []) (
    br (notB (lightT data name uid gid)) (
      K (V.bool true) []) (
      ∃ l13 : List Node, ((xs : List (List V)) = nodeV l13) ∧ (
      (fitL l13) ∧ (
      br (notB (rightT next l13)) (
        K (V.bool true) []) (
        ∃ l14 : List Node, ((xs : List (List V)) = nodeV l14) ∧ (
        (goodT next l14) ∧ (
        (((size : Int) ≤ 9223372036854775807)) ∧ (
        (((mode : Int) ≤ 9223372036854775807)) ∧ (
        (((name.length : Nat) ≤ 9223372036854775807)) ∧ (
        (((data.length : Nat) ≤ 1000000)) ∧ (
        ∃ l15 : List Node, ((xs : List (List V)) = nodeV l15) ∧ (
        (goodT next l15) ∧ (
        (((size : Int) ≤ 9223372036854775807)) ∧ (
        (((mode : Int) ≤ 9223372036854775807)) ∧ (
        (((name.length : Nat) ≤ 9223372036854775807)) ∧ (
        (((data.length : Nat) ≤ 1000000)) ∧ (
        br (eqI (callF next l14 kind id name mode uid gid size data now).snd.1 (callF next l15 kind id name mode uid gid size data now).snd.1) (
          br (eqI (callF next l14 kind id name mode uid gid size data now).snd.2 (callF next l15 kind id name mode uid gid size data now).snd.2) (
            ∃ l16 : List Node, ((nodeV (callF next l14 kind id name mode uid gid size data now).fst.2 : List (List V)) = nodeV l16) ∧ (
            ((nodeV (callF next l15 kind id name mode uid gid size data now).fst.2 : List (List V)) = nodeV l16) ∧ (
            (((callF next l14 kind id name mode uid gid size data now).fst.1 : Int) = (callF next l15 kind id name mode uid gid size data now).fst.1) ∧ (
            (((l16.length : Nat) ≤ 1000000000000000000)) ∧ (
            ∃ l17 : List Node, ((nodeV (callF next l14 kind id name mode uid gid size data now).fst.2 : List (List V)) = nodeV l17) ∧ (
            (fitL l17) ∧ (
            br (rightT (callF next l14 kind id name mode uid gid size data now).fst.1 l17) (
              K (V.bool true) []) (
              K (V.bool false) [])))))))) (
            K (V.bool false) [])) (
          K (V.bool false) []))))))))))))))))))))) := by kernel_rfl

def lid_vc_1 (next : Int) (xs : List (List V)) (kind id : Int) (name : List UInt8) (mode : Int) (uid gid : List UInt8) (size : Int) (data : List UInt8) (now : Int) (I : iaC → iaX → iaX → Nat → Prop) (J : ibC → ibX → ibX → Nat → Prop) (K : V → List Bk → Prop) (l16 : List Node) (x17 : (iaL I).X) (m20 : Nat) (x19 : (ibL J).X) : Prop :=
  (
                  ((ibC.mk next xs (callF next l16 kind id name mode uid gid size data now).fst.1 (nodeV (callF next l16 kind id name mode uid gid size data now).fst.2) x17.1 x17.2 (lenL (nodeV (callF next l16 kind id name mode uid gid size data now).fst.2)) : (ibL J).C) = ibC.mk next xs (callF next l16 kind id name mode uid gid size data now).fst.1 (nodeV (callF next l16 kind id name mode uid gid size data now).fst.2) x17.1 x17.2 (lenL (nodeV (callF next l16 kind id name mode uid gid size data now).fst.2))) ∧ (
                  ∃ m'24 : Nat, (((m'24 : Nat) < m20)) ∧ (
                  J (ibC.mk next xs (callF next l16 kind id name mode uid gid size data now).fst.1 (nodeV (callF next l16 kind id name mode uid gid size data now).fst.2) x17.1 x17.2 (lenL (nodeV (callF next l16 kind id name mode uid gid size data now).fst.2))) (ibX.mk 0) (ibX.mk (addI IntKind.i64 x19.1 1)) m'24)))
theorem lid_vc (next : Int) (xs : List (List V)) (kind id : Int) (name : List UInt8) (mode : Int) (uid gid : List UInt8) (size : Int) (data : List UInt8) (now : Int) (I : iaC → iaX → iaX → Nat → Prop) (J : ibC → ibX → ibX → Nat → Prop) (K : V → List Bk → Prop) : vcF Try.prog cfgN (ctOf [(15, smallCon), (20, lightCon), (11, okCon), (17, rightCon), (31, didCon), (12, sameCon), (21, nodeCon)]) (lpOf [(8, iaL I), (17, ibL J)]) 10 [.agg [.int .i64 next, .lst xs], .agg [.int .i64 kind, .int .i64 id, .str name, .int .i64 mode, .str uid, .str gid, .int .i64 size, .str data, .int .i64 now]] [] K = (
  ∃ l14 : List Node, ((xs : List (List V)) = nodeV l14) ∧ (
  (shortL l14) ∧ (
  br (notB (smallT l14)) (
    K (V.bool true) []) (
    br (notB (lightT data name uid gid)) (
      K (V.bool true) []) (
      ∃ l15 : List Node, ((xs : List (List V)) = nodeV l15) ∧ (
      (fitL l15) ∧ (
      br (notB (rightT next l15)) (
        K (V.bool true) []) (
        ∃ l16 : List Node, ((xs : List (List V)) = nodeV l16) ∧ (
        (goodT next l16) ∧ (
        (((size : Int) ≤ 9223372036854775807)) ∧ (
        (((mode : Int) ≤ 9223372036854775807)) ∧ (
        (((name.length : Nat) ≤ 9223372036854775807)) ∧ (
        (((data.length : Nat) ≤ 1000000)) ∧ (
        br (notB (eqI (callF next l16 kind id name mode uid gid size data now).snd.2 0)) (
          ∃ l17 : List Node, ((xs : List (List V)) = nodeV l17) ∧ (
          ((nodeV (callF next l16 kind id name mode uid gid size data now).fst.2 : List (List V)) = nodeV l17) ∧ (
          ((next : Int) = (callF next l16 kind id name mode uid gid size data now).fst.1) ∧ (
          (((l17.length : Nat) ≤ 1000000000000000000)) ∧ (
          K (V.bool true) []))))) (
          (∃ m17 : Nat, (((m17 : Nat) < 18446744073709551616)) ∧ (
          I (iaC.mk next xs (callF next l16 kind id name mode uid gid size data now).fst.1 (nodeV (callF next l16 kind id name mode uid gid size data now).fst.2) (lenL xs)) (iaX.mk 0 0 0) (iaX.mk 0 0 0) m17)) ∧ (
          ∀ x17 : (iaL I).X, ∀ m18 : Nat, (I (iaC.mk next xs (callF next l16 kind id name mode uid gid size data now).fst.1 (nodeV (callF next l16 kind id name mode uid gid size data now).fst.2) (lenL xs)) (iaX.mk 0 0 0) x17 m18) → (
          br (ltI x17.3 (lenL xs)) (
            need (andB (leI 0 x17.3) (ltI x17.3 (lenL xs))) (
            need (okRow xs x17.3.toNat 11) (
            ∃ n19 : Int, ((sub (rowAt xs x17.3) 0 1 : Option (List V)) = some [V.int IntKind.i64 n19]) ∧ (
            ∃ l20 : List Node, ((nodeV (callF next l16 kind id name mode uid gid size data now).fst.2 : List (List V)) = nodeV l20) ∧ (
            (((l20.length : Nat) ≤ 100000)) ∧ (
            br (notB (hasB l20 n19)) (
              ((iaC.mk next xs (callF next l16 kind id name mode uid gid size data now).fst.1 (nodeV (callF next l16 kind id name mode uid gid size data now).fst.2) (lenL xs) : (iaL I).C) = iaC.mk next xs (callF next l16 kind id name mode uid gid size data now).fst.1 (nodeV (callF next l16 kind id name mode uid gid size data now).fst.2) (lenL xs)) ∧ (
              ∃ m'21 : Nat, (((m'21 : Nat) < m18)) ∧ (
              I (iaC.mk next xs (callF next l16 kind id name mode uid gid size data now).fst.1 (nodeV (callF next l16 kind id name mode uid gid size data now).fst.2) (lenL xs)) (iaX.mk 0 0 0) (iaX.mk x17.1 (addI IntKind.i64 x17.2 1) (addI IntKind.i64 x17.3 1)) m'21))) (
              need (andB (leI 0 x17.3) (ltI x17.3 (lenL xs))) (
              need (okRow xs x17.3.toNat 11) (
              ∃ n21 : Int, ∃ n22 : Int, ∃ n23 : Int, ∃ s24 : List UInt8, ∃ n25 : Int, ∃ s26 : List UInt8, ∃ s27 : List UInt8, ∃ s28 : List UInt8, ∃ n29 : Int, ∃ n30 : Int, ∃ s31 : List UInt8, ((sub (rowAt xs x17.3) 0 11 : Option (List V)) = some [V.int IntKind.i64 n21, V.int IntKind.i64 n22, V.int IntKind.i64 n23, V.str s24, V.int IntKind.i64 n25, V.str s26, V.str s27, V.str s28, V.int IntKind.i64 n29, V.int IntKind.i64 n30, V.str s31]) ∧ (
              br (!(decide ((nodeF l20 n19).id = n21) && (decide ((nodeF l20 n19).par = n22) && (decide ((nodeF l20 n19).vers = n23) && (strEq (nodeF l20 n19).4 s24 && (decide ((nodeF l20 n19).mode = n25) && (strEq (nodeF l20 n19).6 s26 && (strEq (nodeF l20 n19).7 s27 && (strEq (nodeF l20 n19).8 s28 && (decide ((nodeF l20 n19).atime = n29) && (decide ((nodeF l20 n19).mtime = n30) && (strEq (nodeF l20 n19).11 s31 && true)))))))))))) (
                ((iaC.mk next xs (callF next l16 kind id name mode uid gid size data now).fst.1 (nodeV (callF next l16 kind id name mode uid gid size data now).fst.2) (lenL xs) : (iaL I).C) = iaC.mk next xs (callF next l16 kind id name mode uid gid size data now).fst.1 (nodeV (callF next l16 kind id name mode uid gid size data now).fst.2) (lenL xs)) ∧ (
                ∃ m'32 : Nat, (((m'32 : Nat) < m18)) ∧ (
                I (iaC.mk next xs (callF next l16 kind id name mode uid gid size data now).fst.1 (nodeV (callF next l16 kind id name mode uid gid size data now).fst.2) (lenL xs)) (iaX.mk 0 0 0) (iaX.mk (addI IntKind.i64 x17.1 1) x17.2 (addI IntKind.i64 x17.3 1)) m'32))) (
                ((iaC.mk next xs (callF next l16 kind id name mode uid gid size data now).fst.1 (nodeV (callF next l16 kind id name mode uid gid size data now).fst.2) (lenL xs) : (iaL I).C) = iaC.mk next xs (callF next l16 kind id name mode uid gid size data now).fst.1 (nodeV (callF next l16 kind id name mode uid gid size data now).fst.2) (lenL xs)) ∧ (
                ∃ m'32 : Nat, (((m'32 : Nat) < m18)) ∧ (
                I (iaC.mk next xs (callF next l16 kind id name mode uid gid size data now).fst.1 (nodeV (callF next l16 kind id name mode uid gid size data now).fst.2) (lenL xs)) (iaX.mk 0 0 0) (iaX.mk x17.1 x17.2 (addI IntKind.i64 x17.3 1)) m'32))))))))))))) (
            (∃ m19 : Nat, (((m19 : Nat) < 18446744073709551616)) ∧ (
            J (ibC.mk next xs (callF next l16 kind id name mode uid gid size data now).fst.1 (nodeV (callF next l16 kind id name mode uid gid size data now).fst.2) x17.1 x17.2 (lenL (nodeV (callF next l16 kind id name mode uid gid size data now).fst.2))) (ibX.mk 0) (ibX.mk 0) m19)) ∧ (
            ∀ x19 : (ibL J).X, ∀ m20 : Nat, (J (ibC.mk next xs (callF next l16 kind id name mode uid gid size data now).fst.1 (nodeV (callF next l16 kind id name mode uid gid size data now).fst.2) x17.1 x17.2 (lenL (nodeV (callF next l16 kind id name mode uid gid size data now).fst.2))) (ibX.mk 0) x19 m20) → (
            br (ltI x19.1 (lenL (nodeV (callF next l16 kind id name mode uid gid size data now).fst.2))) (
              need (andB (leI 0 x19.1) (ltI x19.1 (lenL (nodeV (callF next l16 kind id name mode uid gid size data now).fst.2)))) (
              need (okRow (nodeV (callF next l16 kind id name mode uid gid size data now).fst.2) x19.1.toNat 11) (
              ∃ n21 : Int, ((sub (rowAt (nodeV (callF next l16 kind id name mode uid gid size data now).fst.2) x19.1) 0 1 : Option (List V)) = some [V.int IntKind.i64 n21]) ∧ (
              ∃ l22 : List Node, ((xs : List (List V)) = nodeV l22) ∧ (
              (((l22.length : Nat) ≤ 100000)) ∧ (
              br (notB (hasB l22 n21)) (
                need (andB (leI 0 x19.1) (ltI x19.1 (lenL (nodeV (callF next l16 kind id name mode uid gid size data now).fst.2)))) (
                need (okRow (nodeV (callF next l16 kind id name mode uid gid size data now).fst.2) x19.1.toNat 11) (
                ∃ n23 : Int, ((sub (rowAt (nodeV (callF next l16 kind id name mode uid gid size data now).fst.2) x19.1) 0 1 : Option (List V)) = some [V.int IntKind.i64 n23]) ∧ (
                br (notB (eqI n23 next)) (
                  K (V.bool false) []) (lid_vc_1 next xs kind id name mode uid gid size data now I J K l16 x17 m20 x19))))) (lid_vc_1 next xs kind id name mode uid gid size data now I J K l16 x17 m20 x19))))))) (
              br (leI x17.1 2) (
                br (leI x17.2 1) (
                  br (leI next (callF next l16 kind id name mode uid gid size data now).fst.1) (
                    br (leI (lenL (nodeV (callF next l16 kind id name mode uid gid size data now).fst.2)) (addI IntKind.i64 (lenL xs) 1)) (
                      K (V.bool true) []) (
                      K (V.bool false) [])) (
                    K (V.bool false) [])) (
                  K (V.bool false) [])) (
                K (V.bool false) [])))))))))))))))))))))) := by kernel_rfl

end Go.Proofs.Ytepehbbagbfmcaa
namespace Go.Proofs.Ytepehbbagbfmcaa
open Go.RowKit
set_option maxRecDepth 100000
set_option linter.unusedVariables false
set_option linter.unusedSimpArgs false
theorem good_fit {n : Int} {l : List Node} (h : goodT n l) : fitL l := fun x hx => by
  obtain ⟨j, gx⟩ := List.mem_iff_getElem?.1 hx
  have hv := valid_le (good_valid h gx)
  refine ⟨by omega, ?_⟩
  obtain ⟨_, _, o3, o4⟩ := h.2.2.2 j x gx
  rcases Nat.eq_zero_or_pos j with q | q
  · rw [(o3 q).2.2.1]; decide
  · have := (o4 q).1
    simp only [nameB, Bool.and_eq_true, decide_eq_true_eq] at this
    omega
theorem good_snoc {n : Int} {l : List Node} (h : goodT n l) (hl : l.length < 1024) (hn : n ≤ 1048575) {y : Node} (hs : soundB y = true) (hi : y.id = n) (hnm : nameB y.name = true) {p : Nat} {x : Node} (gx : l[p]? = some x) (hp : x.id = y.par) (hd : dirB x.mode = true)
    (hu : ∀ (k : Nat) (z : Node), 0 < k → l[k]? = some z → ¬ (z.par = y.par ∧ z.name = y.name)) : goodT (n + 1) (l ++ [y]) := by
  have h1 := h.1
  refine ⟨by rw [List.length_append]; simp, by rw [List.length_append]; simp; omega, by omega, fun j z gz => ?_⟩
  have low : ∀ {i : Nat} {u : Node}, i < l.length → (l ++ [y])[i]? = some u → l[i]? = some u := fun hi g => by rwa [List.getElem?_append_left hi] at g
  have up : ∀ {i : Nat} {u : Node}, l[i]? = some u → (l ++ [y])[i]? = some u := fun g => by rw [List.getElem?_append_left (List.getElem?_eq_some_iff.1 g).1]; exact g
  rcases Nat.lt_or_ge j l.length with q | q
  · have gz' := low q gz
    obtain ⟨o1, o2, o3, o4⟩ := h.2.2.2 j z gz'
    refine ⟨o1, by omega, o3, fun hj => ?_⟩
    obtain ⟨a1, ⟨k, w, hk, gw, e1, e2⟩, a3, a4⟩ := o4 hj
    exact ⟨a1, ⟨k, w, hk, up gw, e1, e2⟩, fun i u h0 hij gu => a3 i u h0 hij (low (by omega) gu), fun i u hij gu => a4 i u hij (low (by omega) gu)⟩
  · have hj : j = l.length := by
      have := (List.getElem?_eq_some_iff.1 gz).1
      rw [List.length_append] at this
      simp at this; omega
    subst hj
    have hz : z = y := by
      rw [List.getElem?_append_right (Nat.le_refl _), Nat.sub_self] at gz
      exact (Option.some.inj gz).symm
    subst hz
    refine ⟨hs, by omega, fun e => by omega, fun _ => ⟨hnm, ⟨p, x, (List.getElem?_eq_some_iff.1 gx).1, up gx, hp, hd⟩, fun i u h0 hij gu => hu i u h0 (low hij gu), fun i u hij gu => ?_⟩⟩
    rw [hi]
    exact (h.2.2.2 i u (low (by omega) gu)).2.1
theorem create_good {n : Int} {l : List Node} (h : goodT n l) {d : Int} {name : List UInt8} {mode : Int} {uid gid : List UInt8} {now : Int} : goodT (createF n l d name mode uid gid now).1.1 (createF n l d name mode uid gid now).1.2 := by
  unfold createF
  split
  · exact h
  · rename_i g1
    split
    · exact h
    · rename_i g2
      split
      · exact h
      · rename_i g3
        split
        · exact h
        · rename_i g4
          split
          · exact h
          · rename_i g5
            obtain ⟨hh, hdr⟩ := within_at (l := l) (d := d) (by simpa using g1)
            obtain ⟨k, x, gx, ei, en, hlt⟩ := has_at hh
            rw [en] at hdr ⊢
            have g := good_touch (y := x) h gx (h.2.2.2 k x gx).1 uid now rfl rfl rfl rfl
            have ws := with_set h gx (y := touchF x uid now) rfl
            have gk : (withF l (touchF x uid now))[k]? = some (touchF x uid now) := by rw [ws, List.getElem?_set_self hlt]
            have hc := clock_ok now
            refine good_snoc (y := ⟨n, d, 0, name, mode, shortF uid, shortF gid, shortF uid, clockF now, clockF now, []⟩) g (by rw [with_len]; omega) (by omega) ?_ rfl (by simpa using g2) gk ei hdr ?_
            · exact sound_iff.2 ⟨by simpa using g3, (show (0 : Int) ≤ 0 by omega), (show (0 : Int) ≤ 2147483647 by omega), hc.1, hc.2, hc.1, hc.2, short_ok uid, short_ok gid, short_ok uid, by simp, fun _ => rfl⟩
            · intro j z hj gz
              rw [ws] at gz
              have hno : ∀ w ∈ l, chP d name w = false := fun w hw => by
                cases q : chP d name w with
                | false => rfl
                | true => exact absurd (List.find?_isSome.2 ⟨w, hw, q⟩) g4
              rcases set_at hlt gz with ⟨e1, e2⟩ | ⟨e1, e2⟩
              · subst e1 e2
                have := hno x (List.mem_of_getElem? gx)
                rw [chP_f] at this
                have hz : x.id ≠ 1 := fun q => by have := (good_head h gx).1 q; omega
                exact fun c => this ⟨c.1, hz, c.2⟩
              · have := hno z (List.mem_of_getElem? e2)
                rw [chP_f] at this
                have hz : z.id ≠ 1 := fun q => by have := (good_head h e2).1 q; omega
                exact fun c => this ⟨c.1, hz, c.2⟩
theorem call_good {n : Int} {l : List Node} (h : goodT n l) {kind id : Int} {name : List UInt8} {mode : Int} {uid gid : List UInt8} {size : Int} {data : List UInt8} {now : Int} : goodT (callF n l kind id name mode uid gid size data now).1.1 (callF n l kind id name mode uid gid size data now).1.2 := by
  unfold callF
  split
  · exact create_good h
  · split
    · exact remove_good h
    · split
      · exact write_good h
      · split
        · exact resize_good h
        · split
          · exact rename_good h
          · exact attrs_good h
theorem did_con {n : Nat} (hn : 8 ≤ n) : ConOk (evalF Try.prog cfgN n) 31 didCon := by
  intro vs bs K h
  unfold didCon at h
  split at h
  · rename_i nx xs kind id name mode uid gid size data now
    obtain ⟨l, rfl, hg, h1, h2, h3, h4, hK⟩ := h
    refine run_of (lp := lpOf []) (by omega) (ct := ctOf [(33, createCon), (54, removeCon), (22, writeCon), (55, resizeCon), (56, renameCon), (57, attrsCon)])
      (fun k hk => ctOf_ok (ctOf_cons (cr_con (by omega)) (ctOf_cons (rm_con (by omega)) (ctOf_cons (wr_con (by omega)) (ctOf_cons (rs_con (by omega)) (ctOf_cons (rn_con (by omega)) (ctOf_cons (at_con (by omega)) (ctOf_nil _)))))))) ?_
    rw [did_vc]
    unfold callF at hK
    refine br_iff.2 ⟨fun g => ?_, fun g1 => br_iff.2 ⟨fun g => ?_, fun g2 => br_iff.2 ⟨fun g => ?_, fun g3 => br_iff.2 ⟨fun g => ?_, fun g4 => br_iff.2 ⟨fun g => ?_, fun g5 => ?_⟩⟩⟩⟩⟩
    · simp only [br_iff, need_iff, andB_t, andB_f, orB_t, orB_f, notB_t, notB_f, leI_t, leI_f, ltI_t, ltI_f, eqI_t, eqI_f, leN_t, leN_f, eqN_t, eqN_f, eqS_t, eqS_f, eqB_t, eqB_f, catOk_t, leC_t] at g
      rw [if_pos g] at hK; exact ⟨l, rfl, hg, h3, h2, hK⟩
    · simp only [br_iff, need_iff, andB_t, andB_f, orB_t, orB_f, notB_t, notB_f, leI_t, leI_f, ltI_t, ltI_f, eqI_t, eqI_f, leN_t, leN_f, eqN_t, eqN_f, eqS_t, eqS_f, eqB_t, eqB_f, catOk_t, leC_t] at g1 g
      rw [if_neg g1, if_pos g] at hK; exact ⟨l, rfl, hg, hK⟩
    · simp only [br_iff, need_iff, andB_t, andB_f, orB_t, orB_f, notB_t, notB_f, leI_t, leI_f, ltI_t, ltI_f, eqI_t, eqI_f, leN_t, leN_f, eqN_t, eqN_f, eqS_t, eqS_f, eqB_t, eqB_f, catOk_t, leC_t] at g1 g2 g
      rw [if_neg g1, if_neg g2, if_pos g] at hK; exact ⟨l, rfl, hg, h1, h4, hK⟩
    · simp only [br_iff, need_iff, andB_t, andB_f, orB_t, orB_f, notB_t, notB_f, leI_t, leI_f, ltI_t, ltI_f, eqI_t, eqI_f, leN_t, leN_f, eqN_t, eqN_f, eqS_t, eqS_f, eqB_t, eqB_f, catOk_t, leC_t] at g1 g2 g3 g
      rw [if_neg g1, if_neg g2, if_neg g3, if_pos g] at hK; exact ⟨l, rfl, hg, hK⟩
    · simp only [br_iff, need_iff, andB_t, andB_f, orB_t, orB_f, notB_t, notB_f, leI_t, leI_f, ltI_t, ltI_f, eqI_t, eqI_f, leN_t, leN_f, eqN_t, eqN_f, eqS_t, eqS_f, eqB_t, eqB_f, catOk_t, leC_t] at g1 g2 g3 g4 g
      rw [if_neg g1, if_neg g2, if_neg g3, if_neg g4, if_pos g] at hK; exact ⟨l, rfl, hg, h3, hK⟩
    · simp only [br_iff, need_iff, andB_t, andB_f, orB_t, orB_f, notB_t, notB_f, leI_t, leI_f, ltI_t, ltI_f, eqI_t, eqI_f, leN_t, leN_f, eqN_t, eqN_f, eqS_t, eqS_f, eqB_t, eqB_f, catOk_t, leC_t] at g1 g2 g3 g4 g5
      rw [if_neg g1, if_neg g2, if_neg g3, if_neg g4, if_neg g5] at hK; exact ⟨l, rfl, hg, h2, hK⟩
  · exact h.elim
theorem want_con {n : Nat} (hn : 8 ≤ n) : ConOk (evalF Try.prog cfgN n) 32 didCon := by
  intro vs bs K h
  unfold didCon at h
  split at h
  · rename_i nx xs kind id name mode uid gid size data now
    obtain ⟨l, rfl, hg, h1, h2, h3, h4, hK⟩ := h
    refine run_of (lp := lpOf []) (by omega) (ct := ctOf [(58, createCon), (59, removeCon), (60, writeCon), (61, resizeCon), (62, renameCon), (63, attrsCon)])
      (fun k hk => ctOf_ok (ctOf_cons (rcr_con (by omega)) (ctOf_cons (rrm_con (by omega)) (ctOf_cons (rwr_con (by omega)) (ctOf_cons (rrs_con (by omega)) (ctOf_cons (rrn_con (by omega)) (ctOf_cons (rat_con (by omega)) (ctOf_nil _)))))))) ?_
    rw [want_vc]
    unfold callF at hK
    refine br_iff.2 ⟨fun g => ?_, fun g1 => br_iff.2 ⟨fun g => ?_, fun g2 => br_iff.2 ⟨fun g => ?_, fun g3 => br_iff.2 ⟨fun g => ?_, fun g4 => br_iff.2 ⟨fun g => ?_, fun g5 => ?_⟩⟩⟩⟩⟩
    · simp only [br_iff, need_iff, andB_t, andB_f, orB_t, orB_f, notB_t, notB_f, leI_t, leI_f, ltI_t, ltI_f, eqI_t, eqI_f, leN_t, leN_f, eqN_t, eqN_f, eqS_t, eqS_f, eqB_t, eqB_f, catOk_t, leC_t] at g
      rw [if_pos g] at hK; exact ⟨l, rfl, hg, h3, h2, hK⟩
    · simp only [br_iff, need_iff, andB_t, andB_f, orB_t, orB_f, notB_t, notB_f, leI_t, leI_f, ltI_t, ltI_f, eqI_t, eqI_f, leN_t, leN_f, eqN_t, eqN_f, eqS_t, eqS_f, eqB_t, eqB_f, catOk_t, leC_t] at g1 g
      rw [if_neg g1, if_pos g] at hK; exact ⟨l, rfl, hg, hK⟩
    · simp only [br_iff, need_iff, andB_t, andB_f, orB_t, orB_f, notB_t, notB_f, leI_t, leI_f, ltI_t, ltI_f, eqI_t, eqI_f, leN_t, leN_f, eqN_t, eqN_f, eqS_t, eqS_f, eqB_t, eqB_f, catOk_t, leC_t] at g1 g2 g
      rw [if_neg g1, if_neg g2, if_pos g] at hK; exact ⟨l, rfl, hg, h1, h4, hK⟩
    · simp only [br_iff, need_iff, andB_t, andB_f, orB_t, orB_f, notB_t, notB_f, leI_t, leI_f, ltI_t, ltI_f, eqI_t, eqI_f, leN_t, leN_f, eqN_t, eqN_f, eqS_t, eqS_f, eqB_t, eqB_f, catOk_t, leC_t] at g1 g2 g3 g
      rw [if_neg g1, if_neg g2, if_neg g3, if_pos g] at hK; exact ⟨l, rfl, hg, hK⟩
    · simp only [br_iff, need_iff, andB_t, andB_f, orB_t, orB_f, notB_t, notB_f, leI_t, leI_f, ltI_t, ltI_f, eqI_t, eqI_f, leN_t, leN_f, eqN_t, eqN_f, eqS_t, eqS_f, eqB_t, eqB_f, catOk_t, leC_t] at g1 g2 g3 g4 g
      rw [if_neg g1, if_neg g2, if_neg g3, if_neg g4, if_pos g] at hK; exact ⟨l, rfl, hg, h3, hK⟩
    · simp only [br_iff, need_iff, andB_t, andB_f, orB_t, orB_f, notB_t, notB_f, leI_t, leI_f, ltI_t, ltI_f, eqI_t, eqI_f, leN_t, leN_f, eqN_t, eqN_f, eqS_t, eqS_f, eqB_t, eqB_f, catOk_t, leC_t] at g1 g2 g3 g4 g5
      rw [if_neg g1, if_neg g2, if_neg g3, if_neg g4, if_neg g5] at hK; exact ⟨l, rfl, hg, h2, hK⟩
  · exact h.elim
theorem calls_says {n : Int} {l : List Node} {o : Op} (hs : shortL l) (hf : fitL l) (ho : o.size ≤ 9223372036854775807 ∧ o.mode ≤ 9223372036854775807 ∧ o.name.length ≤ 9223372036854775807) : Says 9 [.agg [.int .i64 n, .lst (nodeV l)], .agg o.v] := by
  refine run_of (lp := lpOf []) (ct := ctOf [(15, smallCon), (20, lightCon), (11, okCon), (17, rightCon), (16, rightCon), (31, didCon), (32, didCon), (12, sameCon)]) (by omega)
    (fun k hk => ctOf_ok (ctOf_cons (small_con (by omega)) (ctOf_cons (light_con (by omega)) (ctOf_cons (ok_con (by omega)) (ctOf_cons (rr_con (by omega)) (ctOf_cons (tr_con (by omega)) (ctOf_cons (did_con (by omega)) (ctOf_cons (want_con (by omega)) (ctOf_cons (same_con (by omega)) (ctOf_nil _)))))))))) ?_
  obtain ⟨kind, s, name, mode, uid, gid, off, data, now⟩ := o
  refine cast (lca_vc n (nodeV l) kind s name mode uid gid off data now fun r out => r = .bool true ∧ out = []).symm ?_
  have tt : (V.bool true = V.bool true ∧ ([] : List Bk) = []) := ⟨rfl, rfl⟩
  refine ⟨l, rfl, hs, br_iff.2 ⟨fun _ => tt, fun _ => br_iff.2 ⟨fun _ => tt, fun g2 => ⟨l, rfl, hf, br_iff.2 ⟨fun _ => tt, fun g3 => ?_⟩⟩⟩⟩⟩
  have hg : goodT n l := by simpa [notB, rightT_t] using g3
  have hl : data.length ≤ 70000 := by
    have : lightT data name uid gid = true := by simpa [notB] using g2
    exact (of_decide_eq_true this).1
  have cg := call_good hg (kind := kind) (id := s) (name := name) (mode := mode) (uid := uid) (gid := gid) (size := off) (data := data) (now := now)
  have ei : ∀ a : Int, eqI a a = true := fun a => by simp [eqI]
  refine ⟨l, rfl, hg, ho.1, ho.2.1, ho.2.2, by omega, l, rfl, hg, ho.1, ho.2.1, ho.2.2, by omega, br_iff.2 ⟨fun _ => br_iff.2 ⟨fun _ => ⟨_, rfl, rfl, rfl, by have := cg.2.1; omega, _, rfl, good_fit cg, ?_⟩, fun g => ?_⟩, fun g => ?_⟩⟩
  · rw [rightT_yes cg]; exact tt
  · rw [ei] at g; cases g
  · rw [ei] at g; cases g
theorem calls_fits {us : List V} (h : FitsAll treeOpSh us) : Says 9 us := by
  obtain ⟨v0, r0, rfl, h0, v1, r1, rfl, h1, rfl⟩ := h
  obtain ⟨n, l, rfl, hn, hs, hf, _⟩ := tree_fits h0
  obtain ⟨o, rfl, ho⟩ := op_fits h1
  exact calls_says hs hf (op_le ho)
end Go.Proofs.Ytepehbbagbfmcaa
