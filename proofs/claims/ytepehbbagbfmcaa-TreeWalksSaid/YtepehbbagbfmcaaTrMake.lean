/- Trees: the parts of calls. -/
import Derived.Test.YtepehbbagbfmcaaTrRight
namespace Go.Proofs.Ytepehbbagbfmcaa
open Go.RowKit
set_option maxRecDepth 100000
set_option linter.unusedVariables false
set_option linter.unusedSimpArgs false
theorem cl_con {n : Nat} (hn : 1 ≤ n) : ConOk (evalF Try.prog cfgN n) 47 cloneCon := by
  intro vs bs K h
  unfold cloneCon at h
  split at h
  · obtain ⟨l, rfl, hb, hK⟩ := h
    refine run_of (lp := lpOf []) hn (fun k _ => noCt_ok _) ?_
    rw [cl_vc]
    simp only [nodeV_lenL, Int.toNat_natCast]
    refine need_iff.2 ⟨by rw [andB_t, leI_t]; exact ⟨rfl, by omega⟩, need_iff.2 ⟨by rw [leN_t]; omega, need_iff.2 ⟨by rw [leN_t]; omega, need_iff.2 ⟨nodeV_head _, need_iff.2 ⟨?_, ?_⟩⟩⟩⟩⟩
    · cases l with
      | nil => rfl
      | cons a t => rfl
    · have e : ∀ z : List V, ([] : List (List V)) ++ List.take (minN (nodeV l).length l.length) (nodeV l) ++ List.drop (0 + minN (nodeV l).length l.length) (List.replicate l.length z) = nodeV l := by
        intro z
        have h1 : minN (nodeV l).length l.length = l.length := by rw [nodeV_len]; simp [minN]
        rw [h1, nodeV_all, List.nil_append, List.drop_eq_nil_of_le (by simp), List.append_nil]
      rw [e]; exact hK
  · exact h.elim
theorem cg_con {n : Nat} (hn : 2 ≤ n) : ConOk (evalF Try.prog cfgN n) 50 changeCon := by
  intro vs bs K h
  unfold changeCon at h
  split at h
  · rename_i nx a b i uid now xs
    obtain ⟨l, k, x, rfl, rfl, hb, rfl, gx, hv, hK⟩ := h
    have hlt := (List.getElem?_eq_some_iff.1 gx).1
    refine run_of (lp := lpOf []) (by omega) (ct := ctOf [(35, clockCon), (34, shortCon)]) (fun k _ => ctOf_ok (ctOf_cons (clk_con (by omega)) (ctOf_cons (sho_con (by omega)) (ctOf_nil _)))) ?_
    rw [cg_vc]
    simp only [Int.toNat_natCast, Nat.zero_add]
    have s1 : ∀ {y z : Node} {l' : List Node} {o : Nat} {v : V}, l'[k]? = some y → put y.v o [v] = some z.v → putAt (nodeV l') k o [v] = some (nodeV (l'.set k z)) := fun h1 h2 => nodeV_put h1 h2
    have g2 : ∀ y, (l.set k y)[k]? = some y := fun y => by rw [List.getElem?_set_self hlt]
    refine need_iff.2 ⟨by simp only [br_iff, need_iff, andB_t, andB_f, orB_t, orB_f, notB_t, notB_f, leI_t, leI_f, ltI_t, ltI_f, eqI_t, eqI_f, leN_t, leN_f, eqN_t, eqN_f, eqS_t, eqS_f, eqB_t, eqB_f, catOk_t, leC_t, Int.ofNat_eq_natCast]; omega, need_iff.2 ⟨nodeV_ok hlt, x.vers, by rw [nodeV_part gx]; rfl, _, s1 (z := { x with vers := x.vers + 1 }) gx (by rw [addI_i64 (by omega) (by omega)]; rfl), x.vers + 1, by rw [nodeV_part (g2 _)]; rfl, ?_⟩⟩
    have fin : ∀ {y : Node}, y = touchF x uid now → K (.tup []) [⟨true, false, true, nodeV (l.set k y), 0⟩] := fun q => by rw [q]; exact hK
    refine br_iff.2 ⟨fun g => ?_, fun g => ?_⟩ <;> simp only [br_iff, need_iff, andB_t, andB_f, orB_t, orB_f, notB_t, notB_f, leI_t, leI_f, ltI_t, ltI_f, eqI_t, eqI_f, leN_t, leN_f, eqN_t, eqN_f, eqS_t, eqS_f, eqB_t, eqB_f, catOk_t, leC_t] at g
    · refine ⟨_, s1 (z := { x with vers := 0 }) (g2 _) rfl, _, by rw [List.set_set]; exact s1 (z := { x with vers := 0, mtime := clockF now }) (g2 _) rfl, _, by rw [List.set_set]; exact s1 (z := { x with vers := 0, mtime := clockF now, muid := shortF uid }) (g2 _) rfl, ?_⟩
      rw [List.set_set]
      refine fin ?_
      simp only [touchF]
      rw [if_pos g]
    · refine ⟨_, s1 (z := { x with vers := x.vers + 1, mtime := clockF now }) (g2 _) rfl, _, by rw [List.set_set]; exact s1 (z := { x with vers := x.vers + 1, mtime := clockF now, muid := shortF uid }) (g2 _) rfl, ?_⟩
      rw [List.set_set]
      refine fin ?_
      simp only [touchF]
      rw [if_neg (by omega)]
  · exact h.elim
theorem file_no {l : List Node} {s : Int} (h : ∀ x ∈ l, idP s x = false) : fileE l s = 8 ∧ fileI l s = 0 := by
  have : fileE l s = 8 := by unfold fileE; rw [(node_no h).2]; rfl
  exact ⟨this, by unfold fileI; rw [this]; rfl⟩
theorem fl_con {n : Nat} (hn : 4 ≤ n) : ConOk (evalF Try.prog cfgN n) 44 fileCon := by
  intro vs bs K h
  unfold fileCon treeCon at h
  split at h
  · rename_i nx xs s
    obtain ⟨l, rfl, hb, hm, hK⟩ := h
    refine run_of (lp := lpOf []) (by omega) (ct := ctOf [(53, indexCon), (39, intCon dirB)]) (fun k hk => ctOf_ok (ctOf_cons (ix_con (by omega)) (ctOf_cons (dir_con (by omega)) (ctOf_nil _)))) ?_
    rw [fl_vc]
    refine ⟨l, rfl, hb, ?_⟩
    simp only [nodeV_lenL]
    rcases fidx_cases (idP s) l with ⟨h1, h2⟩ | ⟨k, f, h1, gf, h3, h4, hlt⟩
    · rw [h1]
      rw [(file_no h2).1, (file_no h2).2] at hK
      exact hK
    · obtain ⟨e1, e2⟩ := node_at gf h3 h4
      rw [e1] at hm
      have e3 : fileE l s = if dirB f.mode = true then 10 else 0 := by unfold fileE; rw [if_pos e2, e1]
      rw [h1]
      refine br_iff.2 ⟨fun g => by simp only [br_iff, need_iff, andB_t, andB_f, orB_t, orB_f, notB_t, notB_f, leI_t, leI_f, ltI_t, ltI_f, eqI_t, eqI_f, leN_t, leN_f, eqN_t, eqN_f, eqS_t, eqS_f, eqB_t, eqB_f, catOk_t, leC_t] at g; omega, fun g => ?_⟩
      have gq : l[k]? = some l[k] := List.getElem?_eq_getElem hlt
      generalize l[k] = q at gq
      have rq := nodeV_row gq
      have kq : okRow (nodeV l) (Int.toNat (k : Int)) 11 = true := by simpa using nodeV_ok (l := l) (i := k) hlt
      have nq : andB (leI 0 (k : Int)) (ltI (k : Int) (l.length : Int)) = true := by simp only [br_iff, need_iff, andB_t, andB_f, orB_t, orB_f, notB_t, notB_f, leI_t, leI_f, ltI_t, ltI_f, eqI_t, eqI_f, leN_t, leN_f, eqN_t, eqN_f, eqS_t, eqS_f, eqB_t, eqB_f, catOk_t, leC_t]; omega
      obtain rfl := Option.some.inj (gf.symm.trans gq)
      rw [need_iff, need_iff]
      refine ⟨nq, kq, ?_⟩
      try rw [rq]
      repeat apply Exists.intro
      refine ⟨rfl, ?_⟩
      refine ⟨hm, br_iff.2 ⟨fun g2 => ?_, fun g2 => ?_⟩⟩
      · rw [if_pos g2] at e3
        have e4 : fileI l s = 0 := by unfold fileI; rw [e3]; rfl
        rw [e3, e4] at hK; exact hK
      · rw [if_neg (by simp [g2])] at e3
        have e4 : fileI l s = (k : Int) := by unfold fileI; rw [e3, h1]; rfl
        rw [e3, e4] at hK; exact hK
  · exact h.elim
def rfileCon : Con := goodCon1 fun l s K => K (.tup [.agg (nodeF l s).v, .int .i64 (fileE l s)])
theorem rfl_con {n : Nat} (hn : 3 ≤ n) : ConOk (evalF Try.prog cfgN n) 45 rfileCon := by
  intro vs bs K h
  unfold rfileCon goodCon1 at h
  split at h
  · rename_i nx xs s
    obtain ⟨l, rfl, hg, hK⟩ := h
    have hb : l.length ≤ 100000 := by have := hg.2.1; omega
    refine run_of (lp := lpOf []) (by omega) (ct := ctOf [(21, nodeCon), (43, intCon isDirB)]) (fun k hk => ctOf_ok (ctOf_cons (rno_con (by omega)) (ctOf_cons (risd_con (by omega)) (ctOf_nil _)))) ?_
    rw [rfl_vc]
    unfold fileE at hK
    refine ⟨l, rfl, hb, br_iff.2 ⟨fun g => ?_, fun g => ⟨mode_le hg s, br_iff.2 ⟨fun g2 => ?_, fun g2 => ?_⟩⟩⟩⟩ <;> simp only [br_iff, need_iff, andB_t, andB_f, orB_t, orB_f, notB_t, notB_f, leI_t, leI_f, ltI_t, ltI_f, eqI_t, eqI_f, leN_t, leN_f, eqN_t, eqN_f, eqS_t, eqS_f, eqB_t, eqB_f, catOk_t, leC_t] at g
    · rw [if_neg (by simp [g])] at hK; exact hK
    · rw [isdir_eq hg] at g2
      rw [if_pos g, if_pos g2] at hK; exact hK
    · rw [isdir_eq hg] at g2
      rw [if_pos g, if_neg (by simp [g2])] at hK; exact hK
  · exact h.elim
theorem repeat_zero : ∀ c : Nat, Lib.repeatL (ByteArray.mk #[0]).data.toList c = List.replicate c 0
  | 0 => rfl
  | c + 1 => by
    have := repeat_zero c
    rw [List.replicate_succ, ← this]
    rfl
def fitCon : Con := fun vs bs K => match vs, bs with
  | [.str s, .int .i64 n], [] => 0 ≤ n ∧ n ≤ 1000000 ∧ s.length ≤ 1000000 ∧ K (.str (fitF s n.toNat)) []
  | _, _ => False
theorem ft_con {n : Nat} (hn : 1 ≤ n) : ConOk (evalF Try.prog cfgN n) 49 fitCon := by
  intro vs bs K h
  unfold fitCon at h
  split at h
  · rename_i s c
    obtain ⟨h1, h2, h3, hK⟩ := h
    refine run_of (lp := lpOf []) hn (fun k _ => noCt_ok _) ?_
    rw [ft_vc]
    unfold fitF at hK
    refine br_iff.2 ⟨fun g => need_iff.2 ⟨?_, ?_⟩, fun g => ?_⟩ <;> simp only [br_iff, need_iff, andB_t, andB_f, orB_t, orB_f, notB_t, notB_f, leI_t, leI_f, ltI_t, ltI_f, eqI_t, eqI_f, leN_t, leN_f, eqN_t, eqN_f, eqS_t, eqS_f, eqB_t, eqB_f, catOk_t, leC_t, lenS] at g
    · simp only [br_iff, need_iff, andB_t, andB_f, orB_t, orB_f, notB_t, notB_f, leI_t, leI_f, ltI_t, ltI_f, eqI_t, eqI_f, leN_t, leN_f, eqN_t, eqN_f, eqS_t, eqS_f, eqB_t, eqB_f, catOk_t, leC_t, lenS]; omega
    · have e : c.toNat - s.length = 0 := by omega
      rw [e] at hK
      simpa [cutS] using hK
    · rw [subI_i64 (by simp only [lenS]; omega) (by simp only [lenS]; omega), repeat_zero]
      have e : ((c - lenS s).toNat) = c.toNat - s.length := by simp only [lenS]; omega
      rw [e]
      have e2 : s.take c.toNat = s := List.take_of_length_le (by omega)
      rw [e2] at hK
      refine need_iff.2 ⟨by simp only [br_iff, need_iff, andB_t, andB_f, orB_t, orB_f, notB_t, notB_f, leI_t, leI_f, ltI_t, ltI_f, eqI_t, eqI_f, leN_t, leN_f, eqN_t, eqN_f, eqS_t, eqS_f, eqB_t, eqB_f, catOk_t, leC_t, lenS]; omega, need_iff.2 ⟨by rw [catOk_t]; simp; omega, hK⟩⟩
  · exact h.elim
def zerosCon : Con := fun vs bs K => match vs, bs with
  | [.int .i64 n], [] => n ≤ 1000000 ∧ K (.str (List.replicate n.toNat 0)) []
  | _, _ => False
theorem ze_con {n : Nat} (hn : 1 ≤ n) : ConOk (evalF Try.prog cfgN n) 71 zerosCon := by
  intro vs bs K h
  unfold zerosCon at h
  split at h
  · rename_i c
    obtain ⟨h1, hK⟩ := h
    refine run_of (lp := lpOf []) hn (fun k _ => noCt_ok _) ?_
    rw [ze_vc]
    have e : (maxI c 0).toNat = c.toNat := by unfold maxI; omega
    have e2 : List.take c.toNat (List.drop 0 (List.replicate c.toNat [V.int IntKind.u8 0])) = rowsB (List.replicate c.toNat 0) := by
      rw [List.drop_zero, List.take_of_length_le (by simp)]
      simp [rowsB]
    rw [e, e2, okBytes_rowsB, bytesOf_rowsB]
    refine need_iff.2 ⟨?_, need_iff.2 ⟨?_, need_iff.2 ⟨?_, need_iff.2 ⟨rfl, hK⟩⟩⟩⟩
    · simp only [br_iff, need_iff, andB_t, andB_f, orB_t, orB_f, notB_t, notB_f, leI_t, leI_f, ltI_t, ltI_f, eqI_t, eqI_f, leN_t, leN_f, eqN_t, eqN_f, eqS_t, eqS_f, eqB_t, eqB_f, catOk_t, leC_t, maxI]; omega
    · simp only [br_iff, need_iff, andB_t, andB_f, orB_t, orB_f, notB_t, notB_f, leI_t, leI_f, ltI_t, ltI_f, eqI_t, eqI_f, leN_t, leN_f, eqN_t, eqN_f, eqS_t, eqS_f, eqB_t, eqB_f, catOk_t, leC_t]; omega
    · simp only [br_iff, need_iff, andB_t, andB_f, orB_t, orB_f, notB_t, notB_f, leI_t, leI_f, ltI_t, ltI_f, eqI_t, eqI_f, leN_t, leN_f, eqN_t, eqN_f, eqS_t, eqS_f, eqB_t, eqB_f, catOk_t, leC_t]; omega
  · exact h.elim
theorem to_con {n : Nat} (hn : 2 ≤ n) : ConOk (evalF Try.prog cfgN n) 73 touchCon := by
  intro vs bs K h
  unfold touchCon at h
  split at h
  · rename_i cs uid now
    obtain ⟨x, rfl, hv, hK⟩ := h
    refine run_of (lp := lpOf []) (by omega) (ct := ctOf [(37, clockCon), (36, shortCon)]) (fun k hk => ctOf_ok (ctOf_cons (rclk_con (by omega)) (ctOf_cons (rsho_con (by omega)) (ctOf_nil _)))) ?_
    rw [to_vc]
    have e : (addI .i64 x.vers 1).tmod 2147483648 = if x.vers + 1 > 2147483647 then 0 else x.vers + 1 := by
      rw [addI_i64 (by omega) (by omega), tmod_pos (by omega)]
      split <;> omega
    unfold touchF Node.v at hK
    rw [← e] at hK
    exact hK
  · exact h.elim
theorem with_snoc {l : List Node} {y f : Node} {k : Nat} (gf : l[k]? = some f) : withF (l.take (k + 1)) y = withF (l.take k) y ++ [if f.id = y.id then y else f] := by
  obtain ⟨hk, rfl⟩ := List.getElem?_eq_some_iff.1 gf
  unfold withF
  rw [List.take_succ_eq_append_getElem hk, List.map_append]
  rfl
theorem with_len (l : List Node) (y : Node) : (withF l y).length = l.length := by simp [withF]
theorem wt_con {n : Nat} (hn : 1 ≤ n) : ConOk (evalF Try.prog cfgN n) 72 withCon := by
  intro vs bs K h
  unfold withCon at h
  split at h
  · rename_i nx xs cs
    obtain ⟨l, y, rfl, rfl, hb, hK⟩ := h
    refine run_of (lp := lpOf [(3, wtL fun _ _ x m => ∃ k : Nat, x.i = (k : Int) ∧ k + m = l.length ∧ x.ys = nodeV (withF (l.take k) y) ∧ k = x.n ∧ k = x.m)]) (by omega) (fun k hk => noCt_ok _) ?_
    rw [wt_vc]
    simp only [nodeV_lenL]
    refine ⟨⟨l.length, by omega, 0, rfl, by omega, rfl, rfl, rfl⟩, ?_⟩
    rintro ⟨a, b, ys, i⟩ m ⟨k, hi, hk, e1, e2, e3⟩
    dsimp only at hi e1 e2 e3 ⊢
    subst hi e1 e2 e3
    have hadd : k < l.length → addI .i64 (k : Int) 1 = ((k + 1 : Nat) : Int) := fun _ => by rw [addI_i64 (by omega) (by omega)]; omega
    rw [br_iff]
    refine ⟨fun hlt => ?_, fun hge => ?_⟩
    · have hlt : k < l.length := by simp only [br_iff, need_iff, andB_t, andB_f, orB_t, orB_f, notB_t, notB_f, leI_t, leI_f, ltI_t, ltI_f, eqI_t, eqI_f, leN_t, leN_f, eqN_t, eqN_f, eqS_t, eqS_f, eqB_t, eqB_f, catOk_t, leC_t] at hlt; omega
      have hwl : (nodeV (withF (l.take k) y)).length = k := by rw [nodeV_len, with_len, List.length_take]; omega
      have gf : l[k]? = some l[k] := List.getElem?_eq_getElem hlt
      generalize l[k] = f at gf
      have rf := nodeV_row gf
      have kf : okRow (nodeV l) (Int.toNat (k : Int)) 11 = true := by simpa using nodeV_ok (l := l) (i := k) hlt
      have nf : andB (leI 0 (k : Int)) (ltI (k : Int) (l.length : Int)) = true := by simp only [br_iff, need_iff, andB_t, andB_f, orB_t, orB_f, notB_t, notB_f, leI_t, leI_f, ltI_t, ltI_f, eqI_t, eqI_f, leN_t, leN_f, eqN_t, eqN_f, eqS_t, eqS_f, eqB_t, eqB_f, catOk_t, leC_t]; omega
      rw [need_iff, need_iff]
      refine ⟨nf, kf, ?_⟩
      try rw [rf]
      repeat apply Exists.intro
      refine ⟨rfl, ?_⟩
      refine br_iff.2 ⟨fun g => need_iff.2 ⟨nodeV_head _, app_br rfl hwl (by omega) ⟨rfl, m - 1, by omega, k + 1, hadd hlt, by omega, ?_, rfl, rfl⟩⟩, fun g => ?_⟩
      · simp only [br_iff, need_iff, andB_t, andB_f, orB_t, orB_f, notB_t, notB_f, leI_t, leI_f, ltI_t, ltI_f, eqI_t, eqI_f, leN_t, leN_f, eqN_t, eqN_f, eqS_t, eqS_f, eqB_t, eqB_f, catOk_t, leC_t] at g
        rw [with_snoc gf, if_pos g, ← nodeV_add, List.drop_zero]
        rfl
      · skip
        rw [need_iff, need_iff]
        refine ⟨nf, kf, ?_⟩
        try rw [rf]
        repeat apply Exists.intro
        refine ⟨rfl, ?_⟩
        refine need_iff.2 ⟨nodeV_head _, app_br rfl hwl (by omega) ⟨rfl, m - 1, by omega, k + 1, hadd hlt, by omega, ?_, rfl, rfl⟩⟩
        simp only [br_iff, need_iff, andB_t, andB_f, orB_t, orB_f, notB_t, notB_f, leI_t, leI_f, ltI_t, ltI_f, eqI_t, eqI_f, leN_t, leN_f, eqN_t, eqN_f, eqS_t, eqS_f, eqB_t, eqB_f, catOk_t, leC_t] at g
        rw [with_snoc gf, if_neg g, ← nodeV_add, List.drop_zero]
        rfl
    · have : k = l.length := by simp only [br_iff, need_iff, andB_t, andB_f, orB_t, orB_f, notB_t, notB_f, leI_t, leI_f, ltI_t, ltI_f, eqI_t, eqI_f, leN_t, leN_f, eqN_t, eqN_f, eqS_t, eqS_f, eqB_t, eqB_f, catOk_t, leC_t] at hge; omega
      subst this
      rw [List.take_length]
      exact hK
  · exact h.elim
def movedCon : Con := fun vs bs K => match vs, bs with
  | [.agg [.int .i64 n, .lst xs], .int .i64 s, .str uid, .int .i64 now], [] => ∃ l : List Node, xs = nodeV l ∧ l.length ≤ 100000 ∧ (0 ≤ (nodeF l s).vers ∧ (nodeF l s).vers ≤ 2147483647) ∧ K (.agg [.int .i64 n, .ref 0 0 l.length l.length]) [⟨true, false, true, nodeV (withF l (touchF (nodeF l s) uid now)), 0⟩]
  | _, _ => False
theorem mv_con {n : Nat} (hn : 3 ≤ n) : ConOk (evalF Try.prog cfgN n) 70 movedCon := by
  intro vs bs K h
  unfold movedCon at h
  split at h
  · obtain ⟨l, rfl, hb, hv, hK⟩ := h
    refine run_of (lp := lpOf []) (by omega) (ct := ctOf [(21, nodeCon), (73, touchCon), (72, withCon)]) (fun k hk => ctOf_ok (ctOf_cons (rno_con (by omega)) (ctOf_cons (to_con (by omega)) (ctOf_cons (wt_con (by omega)) (ctOf_nil _))))) ?_
    rw [mv_vc]
    exact ⟨l, rfl, hb, _, rfl, hv, l, _, rfl, rfl, hb, hK⟩
  · exact h.elim
end Go.Proofs.Ytepehbbagbfmcaa
namespace Go.Proofs.Ytepehbbagbfmcaa
open Go.RowKit
set_option maxRecDepth 100000
set_option linter.unusedVariables false
set_option linter.unusedSimpArgs false
structure rmC where
  s : Int
  uid : List UInt8
  now : Int
  next : Int
  xs : List (List V)
  z : Int
  x0 : Int
  x1 : Int
  x2 : Int
  x3 : List UInt8
  x4 : Int
  x5 : List UInt8
  x6 : List UInt8
  x7 : List UInt8
  x8 : Int
  x9 : Int
  x10 : List UInt8
  nx : Int
structure rmX where
  n : Nat
  m : Nat
  ys : List (List V)
  i : Int
def rmSt (c : rmC) (x : rmX) : St := ⟨[(1, .int .i64 c.s), (2, .str c.uid), (3, .int .i64 c.now), (4, .ptr 0 0 0), (8, .ptr 1 0 0), (10, .ptr 2 0 0), (12, .ptr 3 0 0), (13, .int .i64 x.i)], [(0, ⟨true, true, true, [[.int .i64 c.next, .lst c.xs]], 0⟩), (1, ⟨true, true, true, [[.int .i64 c.z, .nils]], 0⟩), (2, ⟨true, true, true, [[.int .i64 c.x0, .int .i64 c.x1, .int .i64 c.x2, .str c.x3, .int .i64 c.x4, .str c.x5, .str c.x6, .str c.x7, .int .i64 c.x8, .int .i64 c.x9, .str c.x10]], 0⟩), (3, ⟨true, true, true, [[.int .i64 c.nx, .ref 4 0 x.n x.m]], 0⟩), (4, ⟨true, false, true, x.ys, 0⟩)]⟩
def rmUn (s : St) : Option (rmC × rmX) :=
  match s with
  | ⟨[(q0, .int .i64 s), (q1, .str uid), (q2, .int .i64 now), (q3, .ptr q4 q5 q6), (q7, .ptr q8 q9 q10), (q11, .ptr q12 q13 q14), (q15, .ptr q16 q17 q18), (q19, .int .i64 i)], [(q20, ⟨true, true, true, [[.int .i64 next, .lst xs]], q21⟩), (q22, ⟨true, true, true, [[.int .i64 z, .nils]], q23⟩), (q24, ⟨true, true, true, [[.int .i64 x0, .int .i64 x1, .int .i64 x2, .str x3, .int .i64 x4, .str x5, .str x6, .str x7, .int .i64 x8, .int .i64 x9, .str x10]], q25⟩), (q26, ⟨true, true, true, [[.int .i64 nx, .ref q27 q28 n m]], q29⟩), (q30, ⟨true, false, true, ys, q31⟩)]⟩ => bif Nat.beq q0 1 && Nat.beq q1 2 && Nat.beq q2 3 && Nat.beq q3 4 && Nat.beq q4 0 && Nat.beq q5 0 && Nat.beq q6 0 && Nat.beq q7 8 && Nat.beq q8 1 && Nat.beq q9 0 && Nat.beq q10 0 && Nat.beq q11 10 && Nat.beq q12 2 && Nat.beq q13 0 && Nat.beq q14 0 && Nat.beq q15 12 && Nat.beq q16 3 && Nat.beq q17 0 && Nat.beq q18 0 && Nat.beq q19 13 && Nat.beq q20 0 && Nat.beq q21 0 && Nat.beq q22 1 && Nat.beq q23 0 && Nat.beq q24 2 && Nat.beq q25 0 && Nat.beq q26 3 && Nat.beq q27 4 && Nat.beq q28 0 && Nat.beq q29 0 && Nat.beq q30 4 && Nat.beq q31 0 then some (⟨s, uid, now, next, xs, z, x0, x1, x2, x3, x4, x5, x6, x7, x8, x9, x10, nx⟩, ⟨n, m, ys, i⟩) else none
  | _ => none
def rmL (inv : rmC → rmX → rmX → Nat → Prop) : LoopS where
  C := rmC
  X := rmX
  st := rmSt
  un := rmUn
  ok := by
    intro s c x h
    unfold rmUn at h
    split at h
    · simp only [Bool.cond_eq_ite] at h
      split at h
      · rename_i hg
        simp only [Bool.and_eq_true, Nat.beq_eq] at hg
        obtain ⟨⟨⟨⟨⟨⟨⟨⟨⟨⟨⟨⟨⟨⟨⟨⟨⟨⟨⟨⟨⟨⟨⟨⟨⟨⟨⟨⟨⟨⟨⟨rfl, rfl⟩, rfl⟩, rfl⟩, rfl⟩, rfl⟩, rfl⟩, rfl⟩, rfl⟩, rfl⟩, rfl⟩, rfl⟩, rfl⟩, rfl⟩, rfl⟩, rfl⟩, rfl⟩, rfl⟩, rfl⟩, rfl⟩, rfl⟩, rfl⟩, rfl⟩, rfl⟩, rfl⟩, rfl⟩, rfl⟩, rfl⟩, rfl⟩, rfl⟩, rfl⟩, rfl⟩ := hg
        cases h
        rfl
      · cases h
    · cases h
  inv := inv

theorem nw_vc (uid : List UInt8) (perm now : Int) (K : V → List Bk → Prop) : vcF Try.prog cfgN (ctOf [(34, shortCon), (35, clockCon)]) (lpOf []) 13 [.str uid, .int .i64 perm, .int .i64 now] [] K = (
  K (V.agg [V.int IntKind.i64 2, V.lst [[V.int IntKind.i64 1, V.int IntKind.i64 1, V.int IntKind.i64 0, V.str [47], V.int IntKind.i64 (addI IntKind.i64 2147483648 ((addI IntKind.i64 (perm.tmod 512) 512).tmod 512)), V.str (shortF uid), V.str (shortF uid), V.str (shortF uid), V.int IntKind.i64 (clockF now), V.int IntKind.i64 (clockF now), V.str []]]]) []) := by kernel_rfl

theorem rnw_vc (uid : List UInt8) (perm now : Int) (K : V → List Bk → Prop) : vcF Try.prog cfgN (ctOf [(36, shortCon), (37, clockCon)]) (lpOf []) 14 [.str uid, .int .i64 perm, .int .i64 now] [] K = (
  K (V.agg [V.int IntKind.i64 2, V.lst [[V.int IntKind.i64 1, V.int IntKind.i64 1, V.int IntKind.i64 0, V.str [47], V.int IntKind.i64 (addI IntKind.i64 2147483648 (andI IntKind.i64 perm 511)), V.str (shortF uid), V.str (shortF uid), V.str (shortF uid), V.int IntKind.i64 (clockF now), V.int IntKind.i64 (clockF now), V.str []]]]) []) := by kernel_rfl

theorem rd_vc (next : Int) (xs : List (List V)) (s off cnt : Int) (K : V → List Bk → Prop) : vcF Try.prog cfgN (ctOf [(44, fileCon)]) (lpOf []) 18 [.agg [.int .i64 next, .lst xs], .int .i64 s, .int .i64 off, .int .i64 cnt] [] K = (
  ∃ l6 : List Node, ((xs : List (List V)) = nodeV l6) ∧ (
  (((l6.length : Nat) ≤ 100000)) ∧ (
  ((((nodeF l6 s).5 : Int) ≤ 9223372036854775807)) ∧ (
  br (notB (eqI (fileE l6 s) 0)) (
    K (V.tup [V.str [], V.int IntKind.i64 (fileE l6 s)]) []) (
    br (ltI off 0) (
      K (V.tup [V.str [], V.int IntKind.i64 1]) []) (
      br (ltI cnt 0) (
        K (V.tup [V.str [], V.int IntKind.i64 1]) []) (
        need (andB (leI 0 (fileI l6 s)) (ltI (fileI l6 s) (lenL xs))) (
        need (okRow xs (fileI l6 s).toNat 11) (
        ∃ s7 : List UInt8, ((sub (rowAt xs (fileI l6 s)) 10 1 : Option (List V)) = some [V.str s7]) ∧ (
        need (andB (leI 0 (minI off (lenS s7))) (leI (minI off (lenS s7)) (lenS s7))) (
        need (andB (leI 0 (minI cnt (lenS (cutS s7 (minI off (lenS s7)) (lenS s7))))) (leI (minI cnt (lenS (cutS s7 (minI off (lenS s7)) (lenS s7)))) (lenS (cutS s7 (minI off (lenS s7)) (lenS s7))))) (
        K (V.tup [V.str (cutS (cutS s7 (minI off (lenS s7)) (lenS s7)) 0 (minI cnt (lenS (cutS s7 (minI off (lenS s7)) (lenS s7))))), V.int IntKind.i64 0]) [])))))))))))) := by kernel_rfl

theorem rrd_vc (next : Int) (xs : List (List V)) (s off cnt : Int) (K : V → List Bk → Prop) : vcF Try.prog cfgN (ctOf [(45, rfileCon)]) (lpOf []) 19 [.agg [.int .i64 next, .lst xs], .int .i64 s, .int .i64 off, .int .i64 cnt] [] K = (
  ∃ l6 : List Node, ((xs : List (List V)) = nodeV l6) ∧ (
  (goodT next l6) ∧ (
  br (notB (eqI (fileE l6 s) 0)) (
    K (V.tup [V.str [], V.int IntKind.i64 (fileE l6 s)]) []) (
    br (ltI off 0) (
      K (V.tup [V.str [], V.int IntKind.i64 1]) []) (
      br (ltI cnt 0) (
        K (V.tup [V.str [], V.int IntKind.i64 1]) []) (
        br (leI (lenS (nodeF l6 s).11) off) (
          K (V.tup [V.str [], V.int IntKind.i64 0]) []) (
          need (andB (leI 0 (addI IntKind.i64 off (minI cnt (subI IntKind.i64 (lenS (nodeF l6 s).11) off)))) (leI (addI IntKind.i64 off (minI cnt (subI IntKind.i64 (lenS (nodeF l6 s).11) off))) (lenS (nodeF l6 s).11))) (
          need (andB (leI 0 off) (leI off (addI IntKind.i64 off (minI cnt (subI IntKind.i64 (lenS (nodeF l6 s).11) off))))) (
          K (V.tup [V.str (cutS (nodeF l6 s).11 off (addI IntKind.i64 off (minI cnt (subI IntKind.i64 (lenS (nodeF l6 s).11) off)))), V.int IntKind.i64 0]) []))))))))) := by kernel_rfl

def cr_vc_1 (next : Int) (xs : List (List V)) (d : Int) (name : List UInt8) (mode : Int) (uid gid : List UInt8) (now : Int) (K : V → List Bk → Prop) : Prop :=
  (
            ∃ l11 : List Node, ((xs : List (List V)) = nodeV l11) ∧ (
            (((l11.length : Nat) ≤ 100000)) ∧ (
            K (V.tup [V.agg [V.int IntKind.i64 next, V.lst (List.take l11.length (List.drop 0 (nodeV l11)))], V.int IntKind.i64 0, V.int IntKind.i64 22]) [])))
theorem cr_vc (next : Int) (xs : List (List V)) (d : Int) (name : List UInt8) (mode : Int) (uid gid : List UInt8) (now : Int) (K : V → List Bk → Prop) : vcF Try.prog cfgN (ctOf [(51, withinCon), (40, nameCon), (64, intCon validB), (52, childCon), (47, cloneCon), (53, indexCon), (50, changeCon), (35, clockCon), (34, shortCon)]) (lpOf []) 33 [.agg [.int .i64 next, .lst xs], .int .i64 d, .str name, .int .i64 mode, .str uid, .str gid, .int .i64 now] [] K = (
  ∃ l9 : List Node, ((xs : List (List V)) = nodeV l9) ∧ (
  (((l9.length : Nat) ≤ 100000)) ∧ (
  ((((nodeF l9 d).5 : Int) ≤ 9223372036854775807)) ∧ (
  br (notB (eqI (withinF l9 d) 0)) (
    ∃ l10 : List Node, ((xs : List (List V)) = nodeV l10) ∧ (
    (((l10.length : Nat) ≤ 100000)) ∧ (
    K (V.tup [V.agg [V.int IntKind.i64 next, V.lst (List.take l10.length (List.drop 0 (nodeV l10)))], V.int IntKind.i64 0, V.int IntKind.i64 (withinF l9 d)]) []))) (
    (((name.length : Nat) ≤ 9223372036854775807)) ∧ (
    br (notB (nameB name)) (
      ∃ l10 : List Node, ((xs : List (List V)) = nodeV l10) ∧ (
      (((l10.length : Nat) ≤ 100000)) ∧ (
      K (V.tup [V.agg [V.int IntKind.i64 next, V.lst (List.take l10.length (List.drop 0 (nodeV l10)))], V.int IntKind.i64 0, V.int IntKind.i64 6]) []))) (
      (((mode : Int) ≤ 9223372036854775807)) ∧ (
      br (notB (validB mode)) (
        ∃ l10 : List Node, ((xs : List (List V)) = nodeV l10) ∧ (
        (((l10.length : Nat) ≤ 100000)) ∧ (
        K (V.tup [V.agg [V.int IntKind.i64 next, V.lst (List.take l10.length (List.drop 0 (nodeV l10)))], V.int IntKind.i64 0, V.int IntKind.i64 1]) []))) (
        ∃ l10 : List Node, ((xs : List (List V)) = nodeV l10) ∧ (
        (((l10.length : Nat) ≤ 100000)) ∧ (
        br (leI 0 (fidx (chP d name) l10)) (
          ∃ l11 : List Node, ((xs : List (List V)) = nodeV l11) ∧ (
          (((l11.length : Nat) ≤ 100000)) ∧ (
          K (V.tup [V.agg [V.int IntKind.i64 next, V.lst (List.take l11.length (List.drop 0 (nodeV l11)))], V.int IntKind.i64 0, V.int IntKind.i64 7]) []))) (
          br (leI 1024 (lenL xs)) (cr_vc_1 next xs d name mode uid gid now K) (
            br (ltI 1048575 next) (cr_vc_1 next xs d name mode uid gid now K) (
              ∃ l11 : List Node, ((xs : List (List V)) = nodeV l11) ∧ (
              (((l11.length : Nat) ≤ 100000)) ∧ (
              ∃ l12 : List Node, ((List.take l11.length (List.drop 0 (nodeV l11)) : List (List V)) = nodeV l12) ∧ (
              (((l12.length : Nat) ≤ 100000)) ∧ (
              ∃ l13 : List Node, ∃ k14 : Nat, ∃ x15 : Node, ((nodeV l11 : List (List V)) = nodeV l13) ∧ (
              ((l11.length : Nat) = l13.length) ∧ (
              (((l13.length : Nat) ≤ 100000)) ∧ (
              ((fidx (idP d) l12 : Int) = Int.ofNat k14) ∧ (
              ((l13.get?Internal k14 : Option Node) = some x15) ∧ (
              ((((0 : Int) ≤ x15.3)) ∧ (
              ((x15.3 : Int) ≤ 2147483647))) ∧ (
              need (headOkP 11 (nodeV (l13.set k14 (touchF x15 uid now)))) (
              br (leN (l11.length + 1) l11.length) (
                K (V.tup [V.agg [V.int IntKind.i64 (addI IntKind.i64 next 1), V.lst (List.take (l11.length + 1) (List.drop 0 (List.take (0 + l11.length) (nodeV (l13.set k14 (touchF x15 uid now))) ++ [[V.int IntKind.i64 next, V.int IntKind.i64 d, V.int IntKind.i64 0, V.str name, V.int IntKind.i64 mode, V.str (shortF uid), V.str (shortF gid), V.str (shortF uid), V.int IntKind.i64 (clockF now), V.int IntKind.i64 (clockF now), V.str []]] ++ List.drop (0 + l11.length + 1) (nodeV (l13.set k14 (touchF x15 uid now))))))], V.int IntKind.i64 next, V.int IntKind.i64 0]) []) (
                need (eqN (0 + l11.length) (nodeV (l13.set k14 (touchF x15 uid now))).length) (
                need (leN ((l11.length + 1) * 128) 140737488355328) (
                K (V.tup [V.agg [V.int IntKind.i64 (addI IntKind.i64 next 1), V.lst (List.take (l11.length + 1) (List.drop 0 (List.drop 0 (nodeV (l13.set k14 (touchF x15 uid now))) ++ [[V.int IntKind.i64 next, V.int IntKind.i64 d, V.int IntKind.i64 0, V.str name, V.int IntKind.i64 mode, V.str (shortF uid), V.str (shortF gid), V.str (shortF uid), V.int IntKind.i64 (clockF now), V.int IntKind.i64 (clockF now), V.str []]])))], V.int IntKind.i64 next, V.int IntKind.i64 0]) [])))))))))))))))))))))))))))) := by kernel_rfl

theorem rcr_vc (next : Int) (xs : List (List V)) (d : Int) (name : List UInt8) (mode : Int) (uid gid : List UInt8) (now : Int) (K : V → List Bk → Prop) : vcF Try.prog cfgN (ctOf [(21, nodeCon), (43, intCon isDirB), (42, nameCon), (65, intCon validB), (27, findCon), (70, movedCon), (37, clockCon), (36, shortCon)]) (lpOf []) 58 [.agg [.int .i64 next, .lst xs], .int .i64 d, .str name, .int .i64 mode, .str uid, .str gid, .int .i64 now] [] K = (
  ∃ l9 : List Node, ((xs : List (List V)) = nodeV l9) ∧ (
  (((l9.length : Nat) ≤ 100000)) ∧ (
  br (notB (hasB l9 d)) (
    K (V.tup [V.agg [V.int IntKind.i64 next, V.lst xs], V.int IntKind.i64 0, V.int IntKind.i64 8]) []) (
    ((((nodeF l9 d).5 : Int) ≤ 9223372036854775807)) ∧ (
    br (notB (isDirB (nodeF l9 d).5)) (
      K (V.tup [V.agg [V.int IntKind.i64 next, V.lst xs], V.int IntKind.i64 0, V.int IntKind.i64 9]) []) (
      (((name.length : Nat) ≤ 9223372036854775807)) ∧ (
      br (notB (nameB name)) (
        K (V.tup [V.agg [V.int IntKind.i64 next, V.lst xs], V.int IntKind.i64 0, V.int IntKind.i64 6]) []) (
        (((mode : Int) ≤ 9223372036854775807)) ∧ (
        br (notB (validB mode)) (
          K (V.tup [V.agg [V.int IntKind.i64 next, V.lst xs], V.int IntKind.i64 0, V.int IntKind.i64 1]) []) (
          ∃ l10 : List Node, ((xs : List (List V)) = nodeV l10) ∧ (
          (goodT next l10) ∧ (
          br (eqI (findF l10 d name).2 0) (
            K (V.tup [V.agg [V.int IntKind.i64 next, V.lst xs], V.int IntKind.i64 0, V.int IntKind.i64 7]) []) (
            br (leI 1024 (lenL xs)) (
              K (V.tup [V.agg [V.int IntKind.i64 next, V.lst xs], V.int IntKind.i64 0, V.int IntKind.i64 22]) []) (
              br (ltI 1048575 next) (
                K (V.tup [V.agg [V.int IntKind.i64 next, V.lst xs], V.int IntKind.i64 0, V.int IntKind.i64 22]) []) (
                ∃ l11 : List Node, ((xs : List (List V)) = nodeV l11) ∧ (
                (((l11.length : Nat) ≤ 100000)) ∧ (
                ((((0 : Int) ≤ (nodeF l11 d).3)) ∧ (
                (((nodeF l11 d).3 : Int) ≤ 2147483647))) ∧ (
                need (headOkP 11 (nodeV (withF l11 (touchF (nodeF l11 d) uid now)))) (
                br (leN (l11.length + 1) l11.length) (
                  K (V.tup [V.agg [V.int IntKind.i64 (addI IntKind.i64 next 1), V.lst (List.take (l11.length + 1) (List.drop 0 (List.take (0 + l11.length) (nodeV (withF l11 (touchF (nodeF l11 d) uid now))) ++ [[V.int IntKind.i64 next, V.int IntKind.i64 d, V.int IntKind.i64 0, V.str name, V.int IntKind.i64 mode, V.str (shortF uid), V.str (shortF gid), V.str (shortF uid), V.int IntKind.i64 (clockF now), V.int IntKind.i64 (clockF now), V.str []]] ++ List.drop (0 + l11.length + 1) (nodeV (withF l11 (touchF (nodeF l11 d) uid now))))))], V.int IntKind.i64 next, V.int IntKind.i64 0]) []) (
                  need (eqN (0 + l11.length) (nodeV (withF l11 (touchF (nodeF l11 d) uid now))).length) (
                  need (leN ((l11.length + 1) * 128) 140737488355328) (
                  K (V.tup [V.agg [V.int IntKind.i64 (addI IntKind.i64 next 1), V.lst (List.take (l11.length + 1) (List.drop 0 (List.drop 0 (nodeV (withF l11 (touchF (nodeF l11 d) uid now))) ++ [[V.int IntKind.i64 next, V.int IntKind.i64 d, V.int IntKind.i64 0, V.str name, V.int IntKind.i64 mode, V.str (shortF uid), V.str (shortF gid), V.str (shortF uid), V.int IntKind.i64 (clockF now), V.int IntKind.i64 (clockF now), V.str []]])))], V.int IntKind.i64 next, V.int IntKind.i64 0]) [])))))))))))))))))))))) := by kernel_rfl

theorem rm_vc (next : Int) (xs : List (List V)) (s : Int) (uid : List UInt8) (now : Int) (K : V → List Bk → Prop) : vcF Try.prog cfgN (ctOf [(53, indexCon), (29, childrenCon), (47, cloneCon), (50, changeCon)]) (lpOf []) 54 [.agg [.int .i64 next, .lst xs], .int .i64 s, .str uid, .int .i64 now] [] K = (
  ∃ l6 : List Node, ((xs : List (List V)) = nodeV l6) ∧ (
  (((l6.length : Nat) ≤ 100000)) ∧ (
  br (ltI (fidx (idP s) l6) 0) (
    ∃ l7 : List Node, ((xs : List (List V)) = nodeV l7) ∧ (
    (((l7.length : Nat) ≤ 100000)) ∧ (
    K (V.tup [V.agg [V.int IntKind.i64 next, V.lst (List.take l7.length (List.drop 0 (nodeV l7)))], V.int IntKind.i64 8]) []))) (
    br (eqI s 1) (
      ∃ l7 : List Node, ((xs : List (List V)) = nodeV l7) ∧ (
      (((l7.length : Nat) ≤ 100000)) ∧ (
      K (V.tup [V.agg [V.int IntKind.i64 next, V.lst (List.take l7.length (List.drop 0 (nodeV l7)))], V.int IntKind.i64 1]) []))) (
      ∃ l7 : List Node, ((xs : List (List V)) = nodeV l7) ∧ (
      (goodT next l7) ∧ (
      br (ltI 0 (lenL (intV (childF l7 s)))) (
        ∃ l8 : List Node, ((xs : List (List V)) = nodeV l8) ∧ (
        (((l8.length : Nat) ≤ 100000)) ∧ (
        K (V.tup [V.agg [V.int IntKind.i64 next, V.lst (List.take l8.length (List.drop 0 (nodeV l8)))], V.int IntKind.i64 23]) []))) (
        ∃ l8 : List Node, ((xs : List (List V)) = nodeV l8) ∧ (
        (((l8.length : Nat) ≤ 100000)) ∧ (
        need (andB (leI 0 (fidx (idP s) l6)) (ltI (fidx (idP s) l6) (lenL xs))) (
        need (okRow xs (fidx (idP s) l6).toNat 11) (
        ∃ n9 : Int, ((sub (rowAt xs (fidx (idP s) l6)) 1 1 : Option (List V)) = some [V.int IntKind.i64 n9]) ∧ (
        ∃ l10 : List Node, ((List.take l8.length (List.drop 0 (nodeV l8)) : List (List V)) = nodeV l10) ∧ (
        (((l10.length : Nat) ≤ 100000)) ∧ (
        ∃ l11 : List Node, ∃ k12 : Nat, ∃ x13 : Node, ((nodeV l8 : List (List V)) = nodeV l11) ∧ (
        ((l8.length : Nat) = l11.length) ∧ (
        (((l11.length : Nat) ≤ 100000)) ∧ (
        ((fidx (idP n9) l10 : Int) = Int.ofNat k12) ∧ (
        ((l11.get?Internal k12 : Option Node) = some x13) ∧ (
        ((((0 : Int) ≤ x13.3)) ∧ (
        ((x13.3 : Int) ≤ 2147483647))) ∧ (
        need (headOkP 11 (nodeV (l11.set k12 (touchF x13 uid now)))) (
        need (andB (leI 0 (fidx (idP s) l6)) (leI (fidx (idP s) l6) (Int.ofNat l8.length))) (
        need (headOkP 11 (nodeV (l11.set k12 (touchF x13 uid now)))) (
        need (andB (leI 0 (addI IntKind.i64 (fidx (idP s) l6) 1)) (leI (addI IntKind.i64 (fidx (idP s) l6) 1) (Int.ofNat l8.length))) (
        need (headOkP 11 (List.take ((Int.ofNat l8.length).toNat - (addI IntKind.i64 (fidx (idP s) l6) 1).toNat) (List.drop (0 + (addI IntKind.i64 (fidx (idP s) l6) 1).toNat) (nodeV (l11.set k12 (touchF x13 uid now)))))) (
        need (headOkP 11 (nodeV (l11.set k12 (touchF x13 uid now)))) (
        br (leN ((fidx (idP s) l6).toNat - 0 + (List.take ((Int.ofNat l8.length).toNat - (addI IntKind.i64 (fidx (idP s) l6) 1).toNat) (List.drop (0 + (addI IntKind.i64 (fidx (idP s) l6) 1).toNat) (nodeV (l11.set k12 (touchF x13 uid now))))).length) (l8.length - 0)) (
          K (V.tup [V.agg [V.int IntKind.i64 next, V.lst (List.take ((fidx (idP s) l6).toNat - 0 + (List.take ((Int.ofNat l8.length).toNat - (addI IntKind.i64 (fidx (idP s) l6) 1).toNat) (List.drop (0 + (addI IntKind.i64 (fidx (idP s) l6) 1).toNat) (nodeV (l11.set k12 (touchF x13 uid now))))).length) (List.drop 0 (List.take (0 + ((fidx (idP s) l6).toNat - 0)) (nodeV (l11.set k12 (touchF x13 uid now))) ++ List.take ((Int.ofNat l8.length).toNat - (addI IntKind.i64 (fidx (idP s) l6) 1).toNat) (List.drop (0 + (addI IntKind.i64 (fidx (idP s) l6) 1).toNat) (nodeV (l11.set k12 (touchF x13 uid now)))) ++ List.drop (0 + ((fidx (idP s) l6).toNat - 0) + (List.take ((Int.ofNat l8.length).toNat - (addI IntKind.i64 (fidx (idP s) l6) 1).toNat) (List.drop (0 + (addI IntKind.i64 (fidx (idP s) l6) 1).toNat) (nodeV (l11.set k12 (touchF x13 uid now))))).length) (nodeV (l11.set k12 (touchF x13 uid now))))))], V.int IntKind.i64 0]) []) (
          need (eqN (0 + ((fidx (idP s) l6).toNat - 0)) (nodeV (l11.set k12 (touchF x13 uid now))).length) (
          need (leN (((fidx (idP s) l6).toNat - 0 + (List.take ((Int.ofNat l8.length).toNat - (addI IntKind.i64 (fidx (idP s) l6) 1).toNat) (List.drop (0 + (addI IntKind.i64 (fidx (idP s) l6) 1).toNat) (nodeV (l11.set k12 (touchF x13 uid now))))).length) * 128) 140737488355328) (
          K (V.tup [V.agg [V.int IntKind.i64 next, V.lst (List.take ((fidx (idP s) l6).toNat - 0 + (List.take ((Int.ofNat l8.length).toNat - (addI IntKind.i64 (fidx (idP s) l6) 1).toNat) (List.drop (0 + (addI IntKind.i64 (fidx (idP s) l6) 1).toNat) (nodeV (l11.set k12 (touchF x13 uid now))))).length) (List.drop 0 (List.drop 0 (nodeV (l11.set k12 (touchF x13 uid now))) ++ List.take ((Int.ofNat l8.length).toNat - (addI IntKind.i64 (fidx (idP s) l6) 1).toNat) (List.drop (0 + (addI IntKind.i64 (fidx (idP s) l6) 1).toNat) (nodeV (l11.set k12 (touchF x13 uid now)))))))], V.int IntKind.i64 0]) [])))))))))))))))))))))))))))))) := by kernel_rfl

theorem rrm_vc (next : Int) (xs : List (List V)) (s : Int) (uid : List UInt8) (now : Int) (I : rmC → rmX → rmX → Nat → Prop) (K : V → List Bk → Prop) : vcF Try.prog cfgN (ctOf [(21, nodeCon), (30, childrenCon), (70, movedCon)]) (lpOf [(10, rmL I)]) 59 [.agg [.int .i64 next, .lst xs], .int .i64 s, .str uid, .int .i64 now] [] K = (
  ∃ l7 : List Node, ((xs : List (List V)) = nodeV l7) ∧ (
  (((l7.length : Nat) ≤ 100000)) ∧ (
  br (notB (hasB l7 s)) (
    K (V.tup [V.agg [V.int IntKind.i64 next, V.lst xs], V.int IntKind.i64 8]) []) (
    br (eqI s 1) (
      K (V.tup [V.agg [V.int IntKind.i64 next, V.lst xs], V.int IntKind.i64 1]) []) (
      ∃ l8 : List Node, ((xs : List (List V)) = nodeV l8) ∧ (
      (goodT next l8) ∧ (
      br (ltI 0 (lenL (intV (childF l8 s)))) (
        K (V.tup [V.agg [V.int IntKind.i64 next, V.lst xs], V.int IntKind.i64 23]) []) (
        (∃ m9 : Nat, (((m9 : Nat) < 18446744073709551616)) ∧ (
        I (rmC.mk s uid now next xs 0 (nodeF l7 s).1 (nodeF l7 s).2 (nodeF l7 s).3 (nodeF l7 s).4 (nodeF l7 s).5 (nodeF l7 s).6 (nodeF l7 s).7 (nodeF l7 s).8 (nodeF l7 s).9 (nodeF l7 s).10 (nodeF l7 s).11 next) (rmX.mk 0 0 [] 0) (rmX.mk 0 0 [] 0) m9)) ∧ (
        ∀ x9 : (rmL I).X, ∀ m10 : Nat, (I (rmC.mk s uid now next xs 0 (nodeF l7 s).1 (nodeF l7 s).2 (nodeF l7 s).3 (nodeF l7 s).4 (nodeF l7 s).5 (nodeF l7 s).6 (nodeF l7 s).7 (nodeF l7 s).8 (nodeF l7 s).9 (nodeF l7 s).10 (nodeF l7 s).11 next) (rmX.mk 0 0 [] 0) x9 m10) → (
        br (ltI x9.4 (lenL xs)) (
          need (andB (leI 0 x9.4) (ltI x9.4 (lenL xs))) (
          need (okRow xs x9.4.toNat 11) (
          ∃ n11 : Int, ((sub (rowAt xs x9.4) 0 1 : Option (List V)) = some [V.int IntKind.i64 n11]) ∧ (
          br (notB (eqI n11 s)) (
            need (andB (leI 0 x9.4) (ltI x9.4 (lenL xs))) (
            need (okRow xs x9.4.toNat 11) (
            ∃ n12 : Int, ∃ n13 : Int, ∃ n14 : Int, ∃ s15 : List UInt8, ∃ n16 : Int, ∃ s17 : List UInt8, ∃ s18 : List UInt8, ∃ s19 : List UInt8, ∃ n20 : Int, ∃ n21 : Int, ∃ s22 : List UInt8, ((sub (rowAt xs x9.4) 0 11 : Option (List V)) = some [V.int IntKind.i64 n12, V.int IntKind.i64 n13, V.int IntKind.i64 n14, V.str s15, V.int IntKind.i64 n16, V.str s17, V.str s18, V.str s19, V.int IntKind.i64 n20, V.int IntKind.i64 n21, V.str s22]) ∧ (
            need (headOkP 11 x9.3) (
            br (leN (x9.1 + 1) x9.2) (
              ((rmC.mk s uid now next xs (Int.ofNat 0) (nodeF l7 s).1 (nodeF l7 s).2 (nodeF l7 s).3 (nodeF l7 s).4 (nodeF l7 s).5 (nodeF l7 s).6 (nodeF l7 s).7 (nodeF l7 s).8 (nodeF l7 s).9 (nodeF l7 s).10 (nodeF l7 s).11 next : (rmL I).C) = rmC.mk s uid now next xs 0 (nodeF l7 s).1 (nodeF l7 s).2 (nodeF l7 s).3 (nodeF l7 s).4 (nodeF l7 s).5 (nodeF l7 s).6 (nodeF l7 s).7 (nodeF l7 s).8 (nodeF l7 s).9 (nodeF l7 s).10 (nodeF l7 s).11 next) ∧ (
              ∃ m'23 : Nat, (((m'23 : Nat) < m10)) ∧ (
              I (rmC.mk s uid now next xs 0 (nodeF l7 s).1 (nodeF l7 s).2 (nodeF l7 s).3 (nodeF l7 s).4 (nodeF l7 s).5 (nodeF l7 s).6 (nodeF l7 s).7 (nodeF l7 s).8 (nodeF l7 s).9 (nodeF l7 s).10 (nodeF l7 s).11 next) (rmX.mk 0 0 [] 0) (rmX.mk (x9.1 + 1) x9.2 (List.take (0 + x9.1) x9.3 ++ [[V.int IntKind.i64 n12, V.int IntKind.i64 n13, V.int IntKind.i64 n14, V.str s15, V.int IntKind.i64 n16, V.str s17, V.str s18, V.str s19, V.int IntKind.i64 n20, V.int IntKind.i64 n21, V.str s22]] ++ List.drop (0 + x9.1 + 1) x9.3) (addI IntKind.i64 x9.4 1)) m'23))) (
              need (eqN (0 + x9.1) x9.3.length) (
              need (leN ((x9.1 + 1) * 128) 140737488355328) (
              ((rmC.mk s uid now next xs (Int.ofNat 0) (nodeF l7 s).1 (nodeF l7 s).2 (nodeF l7 s).3 (nodeF l7 s).4 (nodeF l7 s).5 (nodeF l7 s).6 (nodeF l7 s).7 (nodeF l7 s).8 (nodeF l7 s).9 (nodeF l7 s).10 (nodeF l7 s).11 next : (rmL I).C) = rmC.mk s uid now next xs 0 (nodeF l7 s).1 (nodeF l7 s).2 (nodeF l7 s).3 (nodeF l7 s).4 (nodeF l7 s).5 (nodeF l7 s).6 (nodeF l7 s).7 (nodeF l7 s).8 (nodeF l7 s).9 (nodeF l7 s).10 (nodeF l7 s).11 next) ∧ (
              ∃ m'23 : Nat, (((m'23 : Nat) < m10)) ∧ (
              I (rmC.mk s uid now next xs 0 (nodeF l7 s).1 (nodeF l7 s).2 (nodeF l7 s).3 (nodeF l7 s).4 (nodeF l7 s).5 (nodeF l7 s).6 (nodeF l7 s).7 (nodeF l7 s).8 (nodeF l7 s).9 (nodeF l7 s).10 (nodeF l7 s).11 next) (rmX.mk 0 0 [] 0) (rmX.mk (x9.1 + 1) (x9.1 + 1) (List.drop 0 x9.3 ++ [[V.int IntKind.i64 n12, V.int IntKind.i64 n13, V.int IntKind.i64 n14, V.str s15, V.int IntKind.i64 n16, V.str s17, V.str s18, V.str s19, V.int IntKind.i64 n20, V.int IntKind.i64 n21, V.str s22]]) (addI IntKind.i64 x9.4 1)) m'23)))))))))) (
            ((rmC.mk s uid now next xs (Int.ofNat 0) (nodeF l7 s).1 (nodeF l7 s).2 (nodeF l7 s).3 (nodeF l7 s).4 (nodeF l7 s).5 (nodeF l7 s).6 (nodeF l7 s).7 (nodeF l7 s).8 (nodeF l7 s).9 (nodeF l7 s).10 (nodeF l7 s).11 next : (rmL I).C) = rmC.mk s uid now next xs 0 (nodeF l7 s).1 (nodeF l7 s).2 (nodeF l7 s).3 (nodeF l7 s).4 (nodeF l7 s).5 (nodeF l7 s).6 (nodeF l7 s).7 (nodeF l7 s).8 (nodeF l7 s).9 (nodeF l7 s).10 (nodeF l7 s).11 next) ∧ (
            ∃ m'12 : Nat, (((m'12 : Nat) < m10)) ∧ (
            I (rmC.mk s uid now next xs 0 (nodeF l7 s).1 (nodeF l7 s).2 (nodeF l7 s).3 (nodeF l7 s).4 (nodeF l7 s).5 (nodeF l7 s).6 (nodeF l7 s).7 (nodeF l7 s).8 (nodeF l7 s).9 (nodeF l7 s).10 (nodeF l7 s).11 next) (rmX.mk 0 0 [] 0) (rmX.mk x9.1 x9.2 x9.3 (addI IntKind.i64 x9.4 1)) m'12))))))) (
          ∃ l11 : List Node, ((List.take x9.1 (List.drop 0 x9.3) : List (List V)) = nodeV l11) ∧ (
          (((l11.length : Nat) ≤ 100000)) ∧ (
          ((((0 : Int) ≤ (nodeF l11 (rmC.mk s uid now next xs 0 (nodeF l7 s).id (nodeF l7 s).par (nodeF l7 s).vers (nodeF l7 s).name (nodeF l7 s).mode (nodeF l7 s).uid (nodeF l7 s).gid (nodeF l7 s).muid (nodeF l7 s).atime (nodeF l7 s).mtime (nodeF l7 s).data next).x1).3)) ∧ (
          (((nodeF l11 (rmC.mk s uid now next xs 0 (nodeF l7 s).id (nodeF l7 s).par (nodeF l7 s).vers (nodeF l7 s).name (nodeF l7 s).mode (nodeF l7 s).uid (nodeF l7 s).gid (nodeF l7 s).muid (nodeF l7 s).atime (nodeF l7 s).mtime (nodeF l7 s).data next).x1).3 : Int) ≤ 2147483647))) ∧ (
          K (V.tup [V.agg [V.int IntKind.i64 next, V.lst (List.take l11.length (List.drop 0 (nodeV (withF l11 (touchF (nodeF l11 (nodeF l7 s).2) uid now)))))], V.int IntKind.i64 0]) [])))))))))))))) := by kernel_rfl

def wr_vc_1 (next : Int) (xs : List (List V)) (s off : Int) (data uid : List UInt8) (now : Int) (K : V → List Bk → Prop) (xs12 : List (List V)) (l11 : List Node) (l8 : List Node) : Prop :=
  (
              ∃ l13 : List Node, ∃ k14 : Nat, ∃ x15 : Node, ((xs12 : List (List V)) = nodeV l13) ∧ (
              ((l11.length : Nat) = l13.length) ∧ (
              (((l13.length : Nat) ≤ 100000)) ∧ (
              ((fileI l8 s : Int) = Int.ofNat k14) ∧ (
              ((l13.get?Internal k14 : Option Node) = some x15) ∧ (
              ((((0 : Int) ≤ x15.3)) ∧ (
              ((x15.3 : Int) ≤ 2147483647))) ∧ (
              K (V.tup [V.agg [V.int IntKind.i64 next, V.lst (List.take l11.length (List.drop 0 (nodeV (l13.set k14 (touchF x15 uid now)))))], V.int IntKind.i64 (lenS data), V.int IntKind.i64 0]) [])))))))
def wr_vc_2 (next : Int) (xs : List (List V)) (s off : Int) (data uid : List UInt8) (now : Int) (K : V → List Bk → Prop) : Prop :=
  (
            ∃ l11 : List Node, ((xs : List (List V)) = nodeV l11) ∧ (
            (((l11.length : Nat) ≤ 100000)) ∧ (
            K (V.tup [V.agg [V.int IntKind.i64 next, V.lst (List.take l11.length (List.drop 0 (nodeV l11)))], V.int IntKind.i64 0, V.int IntKind.i64 4]) [])))
theorem wr_vc (next : Int) (xs : List (List V)) (s off : Int) (data uid : List UInt8) (now : Int) (K : V → List Bk → Prop) : vcF Try.prog cfgN (ctOf [(44, fileCon), (47, cloneCon), (48, intCon appB), (49, fitCon), (50, changeCon)]) (lpOf []) 22 [.agg [.int .i64 next, .lst xs], .int .i64 s, .int .i64 off, .str data, .str uid, .int .i64 now] [] K = (
  ∃ l8 : List Node, ((xs : List (List V)) = nodeV l8) ∧ (
  (((l8.length : Nat) ≤ 100000)) ∧ (
  ((((nodeF l8 s).5 : Int) ≤ 9223372036854775807)) ∧ (
  br (notB (eqI (fileE l8 s) 0)) (
    ∃ l9 : List Node, ((xs : List (List V)) = nodeV l9) ∧ (
    (((l9.length : Nat) ≤ 100000)) ∧ (
    K (V.tup [V.agg [V.int IntKind.i64 next, V.lst (List.take l9.length (List.drop 0 (nodeV l9)))], V.int IntKind.i64 0, V.int IntKind.i64 (fileE l8 s)]) []))) (
    br (ltI off 0) (
      ∃ l9 : List Node, ((xs : List (List V)) = nodeV l9) ∧ (
      (((l9.length : Nat) ≤ 100000)) ∧ (
      K (V.tup [V.agg [V.int IntKind.i64 next, V.lst (List.take l9.length (List.drop 0 (nodeV l9)))], V.int IntKind.i64 0, V.int IntKind.i64 1]) []))) (
      br (eqS data []) (
        ∃ l9 : List Node, ((xs : List (List V)) = nodeV l9) ∧ (
        (((l9.length : Nat) ≤ 100000)) ∧ (
        K (V.tup [V.agg [V.int IntKind.i64 next, V.lst (List.take l9.length (List.drop 0 (nodeV l9)))], V.int IntKind.i64 0, V.int IntKind.i64 0]) []))) (
        need (andB (leI 0 (fileI l8 s)) (ltI (fileI l8 s) (lenL xs))) (
        need (okRow xs (fileI l8 s).toNat 11) (
        ∃ s9 : List UInt8, ((sub (rowAt xs (fileI l8 s)) 10 1 : Option (List V)) = some [V.str s9]) ∧ (
        need (andB (leI 0 (fileI l8 s)) (ltI (fileI l8 s) (lenL xs))) (
        need (okRow xs (fileI l8 s).toNat 11) (
        ∃ n10 : Int, ((sub (rowAt xs (fileI l8 s)) 4 1 : Option (List V)) = some [V.int IntKind.i64 n10]) ∧ (
        (((n10 : Int) ≤ 9223372036854775807)) ∧ (
        br (appB n10) (
          br (ltI 65536 (lenS s9)) (wr_vc_2 next xs s off data uid now K) (
            br (ltI (subI IntKind.i64 65536 (lenS s9)) (lenS data)) (wr_vc_2 next xs s off data uid now K) (
              ∃ l11 : List Node, ((xs : List (List V)) = nodeV l11) ∧ (
              (((l11.length : Nat) ≤ 100000)) ∧ (
              (((0 : Int) ≤ lenS s9)) ∧ (
              (((lenS s9 : Int) ≤ 1000000)) ∧ (
              (((s9.length : Nat) ≤ 1000000)) ∧ (
              need (catOk (fitF s9 (lenS s9).toNat) data) (
              need (andB (leI 0 (minI (addI IntKind.i64 (lenS s9) (lenS data)) (lenS s9))) (leI (minI (addI IntKind.i64 (lenS s9) (lenS data)) (lenS s9)) (lenS s9))) (
              need (catOk (catS (fitF s9 (lenS s9).toNat) data) (cutS s9 (minI (addI IntKind.i64 (lenS s9) (lenS data)) (lenS s9)) (lenS s9))) (
              need (andB (leI 0 (fileI l8 s)) (ltI (fileI l8 s) (Int.ofNat l11.length))) (
              need (okRow (nodeV l11) (0 + (fileI l8 s).toNat) 11) (
              ∃ xs12 : List (List V), ((putAt (nodeV l11) (0 + (fileI l8 s).toNat) 10 [V.str (catS (catS (fitF s9 (lenS s9).toNat) data) (cutS s9 (minI (addI IntKind.i64 (lenS s9) (lenS data)) (lenS s9)) (lenS s9)))] : Option (List (List V))) = some xs12) ∧ (wr_vc_1 next xs s off data uid now K xs12 l11 l8)))))))))))))) (
          br (ltI 65536 off) (wr_vc_2 next xs s off data uid now K) (
            br (ltI (subI IntKind.i64 65536 off) (lenS data)) (wr_vc_2 next xs s off data uid now K) (
              ∃ l11 : List Node, ((xs : List (List V)) = nodeV l11) ∧ (
              (((l11.length : Nat) ≤ 100000)) ∧ (
              (((0 : Int) ≤ off)) ∧ (
              (((off : Int) ≤ 1000000)) ∧ (
              (((s9.length : Nat) ≤ 1000000)) ∧ (
              need (catOk (fitF s9 off.toNat) data) (
              need (andB (leI 0 (minI (addI IntKind.i64 off (lenS data)) (lenS s9))) (leI (minI (addI IntKind.i64 off (lenS data)) (lenS s9)) (lenS s9))) (
              need (catOk (catS (fitF s9 off.toNat) data) (cutS s9 (minI (addI IntKind.i64 off (lenS data)) (lenS s9)) (lenS s9))) (
              need (andB (leI 0 (fileI l8 s)) (ltI (fileI l8 s) (Int.ofNat l11.length))) (
              need (okRow (nodeV l11) (0 + (fileI l8 s).toNat) 11) (
              ∃ xs12 : List (List V), ((putAt (nodeV l11) (0 + (fileI l8 s).toNat) 10 [V.str (catS (catS (fitF s9 off.toNat) data) (cutS s9 (minI (addI IntKind.i64 off (lenS data)) (lenS s9)) (lenS s9)))] : Option (List (List V))) = some xs12) ∧ (wr_vc_1 next xs s off data uid now K xs12 l11 l8)))))))))))))))))))))))))))) := by kernel_rfl

def rwr_vc_1 (next : Int) (xs : List (List V)) (s off : Int) (data uid : List UInt8) (now : Int) (K : V → List Bk → Prop) (x9 : Node) : Prop :=
  (
              ((((0 : Int) ≤ x9.3)) ∧ (
              ((x9.3 : Int) ≤ 2147483647))) ∧ (
              ∃ l10 : List Node, ∃ y11 : Node, ((xs : List (List V)) = nodeV l10) ∧ (
              (([V.int IntKind.i64 (touchF x9 uid now).1, V.int IntKind.i64 (touchF x9 uid now).2, V.int IntKind.i64 (touchF x9 uid now).3, V.str (touchF x9 uid now).4, V.int IntKind.i64 (touchF x9 uid now).5, V.str (touchF x9 uid now).6, V.str (touchF x9 uid now).7, V.str (touchF x9 uid now).8, V.int IntKind.i64 (touchF x9 uid now).9, V.int IntKind.i64 (touchF x9 uid now).10, V.str (touchF x9 uid now).11] : List V) = [V.int IntKind.i64 y11.1, V.int IntKind.i64 y11.2, V.int IntKind.i64 y11.3, V.str y11.4, V.int IntKind.i64 y11.5, V.str y11.6, V.str y11.7, V.str y11.8, V.int IntKind.i64 y11.9, V.int IntKind.i64 y11.10, V.str y11.11]) ∧ (
              (((l10.length : Nat) ≤ 100000)) ∧ (
              K (V.tup [V.agg [V.int IntKind.i64 next, V.lst (List.take l10.length (List.drop 0 (nodeV (withF l10 y11))))], V.int IntKind.i64 (lenS data), V.int IntKind.i64 0]) [])))))
theorem rwr_vc (next : Int) (xs : List (List V)) (s off : Int) (data uid : List UInt8) (now : Int) (K : V → List Bk → Prop) : vcF Try.prog cfgN (ctOf [(45, rfileCon), (71, zerosCon), (73, touchCon), (72, withCon)]) (lpOf []) 60 [.agg [.int .i64 next, .lst xs], .int .i64 s, .int .i64 off, .str data, .str uid, .int .i64 now] [] K = (
  ∃ l8 : List Node, ((xs : List (List V)) = nodeV l8) ∧ (
  (goodT next l8) ∧ (
  br (notB (eqI (fileE l8 s) 0)) (
    K (V.tup [V.agg [V.int IntKind.i64 next, V.lst xs], V.int IntKind.i64 0, V.int IntKind.i64 (fileE l8 s)]) []) (
    br (ltI off 0) (
      K (V.tup [V.agg [V.int IntKind.i64 next, V.lst xs], V.int IntKind.i64 0, V.int IntKind.i64 1]) []) (
      br (eqS data []) (
        K (V.tup [V.agg [V.int IntKind.i64 next, V.lst xs], V.int IntKind.i64 0, V.int IntKind.i64 0]) []) (
        br (eqI ((quoI IntKind.i64 (nodeF l8 s).5 1073741824).tmod 2) 1) (
          br (ltI 65536 (lenS data)) (
            K (V.tup [V.agg [V.int IntKind.i64 next, V.lst xs], V.int IntKind.i64 0, V.int IntKind.i64 4]) []) (
            br (ltI (subI IntKind.i64 65536 (lenS data)) (lenS (nodeF l8 s).11)) (
              K (V.tup [V.agg [V.int IntKind.i64 next, V.lst xs], V.int IntKind.i64 0, V.int IntKind.i64 4]) []) (
              need (andB (leI 0 (minI (lenS (nodeF l8 s).11) (lenS (nodeF l8 s).11))) (leI (minI (lenS (nodeF l8 s).11) (lenS (nodeF l8 s).11)) (lenS (nodeF l8 s).11))) (
              need (andB (leI 0 (minI (addI IntKind.i64 (lenS (nodeF l8 s).11) (lenS data)) (lenS (nodeF l8 s).11))) (leI (minI (addI IntKind.i64 (lenS (nodeF l8 s).11) (lenS data)) (lenS (nodeF l8 s).11)) (lenS (nodeF l8 s).11))) (
              (((subI IntKind.i64 (lenS (nodeF l8 s).11) (lenS (nodeF l8 s).11) : Int) ≤ 1000000)) ∧ (
              need (catOk (cutS (nodeF l8 s).11 0 (minI (lenS (nodeF l8 s).11) (lenS (nodeF l8 s).11))) (List.replicate (subI IntKind.i64 (lenS (nodeF l8 s).11) (lenS (nodeF l8 s).11)).toNat 0)) (
              need (catOk (catS (cutS (nodeF l8 s).11 0 (minI (lenS (nodeF l8 s).11) (lenS (nodeF l8 s).11))) (List.replicate (subI IntKind.i64 (lenS (nodeF l8 s).11) (lenS (nodeF l8 s).11)).toNat 0)) data) (
              need (catOk (catS (catS (cutS (nodeF l8 s).11 0 (minI (lenS (nodeF l8 s).11) (lenS (nodeF l8 s).11))) (List.replicate (subI IntKind.i64 (lenS (nodeF l8 s).11) (lenS (nodeF l8 s).11)).toNat 0)) data) (cutS (nodeF l8 s).11 (minI (addI IntKind.i64 (lenS (nodeF l8 s).11) (lenS data)) (lenS (nodeF l8 s).11)) (lenS (nodeF l8 s).11))) (
              ∃ x9 : Node, (([V.int IntKind.i64 (nodeF l8 s).1, V.int IntKind.i64 (nodeF l8 s).2, V.int IntKind.i64 (nodeF l8 s).3, V.str (nodeF l8 s).4, V.int IntKind.i64 (nodeF l8 s).5, V.str (nodeF l8 s).6, V.str (nodeF l8 s).7, V.str (nodeF l8 s).8, V.int IntKind.i64 (nodeF l8 s).9, V.int IntKind.i64 (nodeF l8 s).10, V.str (catS (catS (catS (cutS (nodeF l8 s).11 0 (minI (lenS (nodeF l8 s).11) (lenS (nodeF l8 s).11))) (List.replicate (subI IntKind.i64 (lenS (nodeF l8 s).11) (lenS (nodeF l8 s).11)).toNat 0)) data) (cutS (nodeF l8 s).11 (minI (addI IntKind.i64 (lenS (nodeF l8 s).11) (lenS data)) (lenS (nodeF l8 s).11)) (lenS (nodeF l8 s).11)))] : List V) = [V.int IntKind.i64 x9.1, V.int IntKind.i64 x9.2, V.int IntKind.i64 x9.3, V.str x9.4, V.int IntKind.i64 x9.5, V.str x9.6, V.str x9.7, V.str x9.8, V.int IntKind.i64 x9.9, V.int IntKind.i64 x9.10, V.str x9.11]) ∧ (rwr_vc_1 next xs s off data uid now K x9)))))))))) (
          br (ltI 65536 (lenS data)) (
            K (V.tup [V.agg [V.int IntKind.i64 next, V.lst xs], V.int IntKind.i64 0, V.int IntKind.i64 4]) []) (
            br (ltI (subI IntKind.i64 65536 (lenS data)) off) (
              K (V.tup [V.agg [V.int IntKind.i64 next, V.lst xs], V.int IntKind.i64 0, V.int IntKind.i64 4]) []) (
              need (andB (leI 0 (minI off (lenS (nodeF l8 s).11))) (leI (minI off (lenS (nodeF l8 s).11)) (lenS (nodeF l8 s).11))) (
              need (andB (leI 0 (minI (addI IntKind.i64 off (lenS data)) (lenS (nodeF l8 s).11))) (leI (minI (addI IntKind.i64 off (lenS data)) (lenS (nodeF l8 s).11)) (lenS (nodeF l8 s).11))) (
              (((subI IntKind.i64 off (lenS (nodeF l8 s).11) : Int) ≤ 1000000)) ∧ (
              need (catOk (cutS (nodeF l8 s).11 0 (minI off (lenS (nodeF l8 s).11))) (List.replicate (subI IntKind.i64 off (lenS (nodeF l8 s).11)).toNat 0)) (
              need (catOk (catS (cutS (nodeF l8 s).11 0 (minI off (lenS (nodeF l8 s).11))) (List.replicate (subI IntKind.i64 off (lenS (nodeF l8 s).11)).toNat 0)) data) (
              need (catOk (catS (catS (cutS (nodeF l8 s).11 0 (minI off (lenS (nodeF l8 s).11))) (List.replicate (subI IntKind.i64 off (lenS (nodeF l8 s).11)).toNat 0)) data) (cutS (nodeF l8 s).11 (minI (addI IntKind.i64 off (lenS data)) (lenS (nodeF l8 s).11)) (lenS (nodeF l8 s).11))) (
              ∃ x9 : Node, (([V.int IntKind.i64 (nodeF l8 s).1, V.int IntKind.i64 (nodeF l8 s).2, V.int IntKind.i64 (nodeF l8 s).3, V.str (nodeF l8 s).4, V.int IntKind.i64 (nodeF l8 s).5, V.str (nodeF l8 s).6, V.str (nodeF l8 s).7, V.str (nodeF l8 s).8, V.int IntKind.i64 (nodeF l8 s).9, V.int IntKind.i64 (nodeF l8 s).10, V.str (catS (catS (catS (cutS (nodeF l8 s).11 0 (minI off (lenS (nodeF l8 s).11))) (List.replicate (subI IntKind.i64 off (lenS (nodeF l8 s).11)).toNat 0)) data) (cutS (nodeF l8 s).11 (minI (addI IntKind.i64 off (lenS data)) (lenS (nodeF l8 s).11)) (lenS (nodeF l8 s).11)))] : List V) = [V.int IntKind.i64 x9.1, V.int IntKind.i64 x9.2, V.int IntKind.i64 x9.3, V.str x9.4, V.int IntKind.i64 x9.5, V.str x9.6, V.str x9.7, V.str x9.8, V.int IntKind.i64 x9.9, V.int IntKind.i64 x9.10, V.str x9.11]) ∧ (rwr_vc_1 next xs s off data uid now K x9)))))))))))))))) := by kernel_rfl

theorem rs_vc (next : Int) (xs : List (List V)) (s len : Int) (uid : List UInt8) (now : Int) (K : V → List Bk → Prop) : vcF Try.prog cfgN (ctOf [(44, fileCon), (47, cloneCon), (49, fitCon), (50, changeCon)]) (lpOf []) 55 [.agg [.int .i64 next, .lst xs], .int .i64 s, .int .i64 len, .str uid, .int .i64 now] [] K = (
  ∃ l7 : List Node, ((xs : List (List V)) = nodeV l7) ∧ (
  (((l7.length : Nat) ≤ 100000)) ∧ (
  ((((nodeF l7 s).5 : Int) ≤ 9223372036854775807)) ∧ (
  br (notB (eqI (fileE l7 s) 0)) (
    ∃ l8 : List Node, ((xs : List (List V)) = nodeV l8) ∧ (
    (((l8.length : Nat) ≤ 100000)) ∧ (
    K (V.tup [V.agg [V.int IntKind.i64 next, V.lst (List.take l8.length (List.drop 0 (nodeV l8)))], V.int IntKind.i64 (fileE l7 s)]) []))) (
    br (ltI len 0) (
      ∃ l8 : List Node, ((xs : List (List V)) = nodeV l8) ∧ (
      (((l8.length : Nat) ≤ 100000)) ∧ (
      K (V.tup [V.agg [V.int IntKind.i64 next, V.lst (List.take l8.length (List.drop 0 (nodeV l8)))], V.int IntKind.i64 1]) []))) (
      br (ltI 65536 len) (
        ∃ l8 : List Node, ((xs : List (List V)) = nodeV l8) ∧ (
        (((l8.length : Nat) ≤ 100000)) ∧ (
        K (V.tup [V.agg [V.int IntKind.i64 next, V.lst (List.take l8.length (List.drop 0 (nodeV l8)))], V.int IntKind.i64 4]) []))) (
        need (andB (leI 0 (fileI l7 s)) (ltI (fileI l7 s) (lenL xs))) (
        need (okRow xs (fileI l7 s).toNat 11) (
        ∃ s8 : List UInt8, ((sub (rowAt xs (fileI l7 s)) 10 1 : Option (List V)) = some [V.str s8]) ∧ (
        br (eqI len (lenS s8)) (
          ∃ l9 : List Node, ((xs : List (List V)) = nodeV l9) ∧ (
          (((l9.length : Nat) ≤ 100000)) ∧ (
          K (V.tup [V.agg [V.int IntKind.i64 next, V.lst (List.take l9.length (List.drop 0 (nodeV l9)))], V.int IntKind.i64 0]) []))) (
          ∃ l9 : List Node, ((xs : List (List V)) = nodeV l9) ∧ (
          (((l9.length : Nat) ≤ 100000)) ∧ (
          need (andB (leI 0 (fileI l7 s)) (ltI (fileI l7 s) (Int.ofNat l9.length))) (
          need (okRow (nodeV l9) (0 + (fileI l7 s).toNat) 11) (
          ∃ s10 : List UInt8, ((partAt (nodeV l9) (0 + (fileI l7 s).toNat) 10 1 : Option (List V)) = some [V.str s10]) ∧ (
          (((0 : Int) ≤ len)) ∧ (
          (((len : Int) ≤ 1000000)) ∧ (
          (((s10.length : Nat) ≤ 1000000)) ∧ (
          need (andB (leI 0 (fileI l7 s)) (ltI (fileI l7 s) (Int.ofNat l9.length))) (
          need (okRow (nodeV l9) (0 + (fileI l7 s).toNat) 11) (
          ∃ xs11 : List (List V), ((putAt (nodeV l9) (0 + (fileI l7 s).toNat) 10 [V.str (fitF s10 len.toNat)] : Option (List (List V))) = some xs11) ∧ (
          ∃ l12 : List Node, ∃ k13 : Nat, ∃ x14 : Node, ((xs11 : List (List V)) = nodeV l12) ∧ (
          ((l9.length : Nat) = l12.length) ∧ (
          (((l12.length : Nat) ≤ 100000)) ∧ (
          ((fileI l7 s : Int) = Int.ofNat k13) ∧ (
          ((l12.get?Internal k13 : Option Node) = some x14) ∧ (
          ((((0 : Int) ≤ x14.3)) ∧ (
          ((x14.3 : Int) ≤ 2147483647))) ∧ (
          K (V.tup [V.agg [V.int IntKind.i64 next, V.lst (List.take l9.length (List.drop 0 (nodeV (l12.set k13 (touchF x14 uid now)))))], V.int IntKind.i64 0]) [])))))))))))))))))))))))))))) := by kernel_rfl

theorem rrs_vc (next : Int) (xs : List (List V)) (s len : Int) (uid : List UInt8) (now : Int) (K : V → List Bk → Prop) : vcF Try.prog cfgN (ctOf [(45, rfileCon), (71, zerosCon), (73, touchCon), (72, withCon)]) (lpOf []) 61 [.agg [.int .i64 next, .lst xs], .int .i64 s, .int .i64 len, .str uid, .int .i64 now] [] K = (
  ∃ l7 : List Node, ((xs : List (List V)) = nodeV l7) ∧ (
  (goodT next l7) ∧ (
  br (notB (eqI (fileE l7 s) 0)) (
    K (V.tup [V.agg [V.int IntKind.i64 next, V.lst xs], V.int IntKind.i64 (fileE l7 s)]) []) (
    br (ltI len 0) (
      K (V.tup [V.agg [V.int IntKind.i64 next, V.lst xs], V.int IntKind.i64 1]) []) (
      br (ltI 65536 len) (
        K (V.tup [V.agg [V.int IntKind.i64 next, V.lst xs], V.int IntKind.i64 4]) []) (
        br (eqI len (lenS (nodeF l7 s).11)) (
          K (V.tup [V.agg [V.int IntKind.i64 next, V.lst xs], V.int IntKind.i64 0]) []) (
          need (andB (leI 0 (minI len (lenS (nodeF l7 s).11))) (leI (minI len (lenS (nodeF l7 s).11)) (lenS (nodeF l7 s).11))) (
          (((subI IntKind.i64 len (lenS (nodeF l7 s).11) : Int) ≤ 1000000)) ∧ (
          need (catOk (cutS (nodeF l7 s).11 0 (minI len (lenS (nodeF l7 s).11))) (List.replicate (subI IntKind.i64 len (lenS (nodeF l7 s).11)).toNat 0)) (
          ∃ x8 : Node, (([V.int IntKind.i64 (nodeF l7 s).1, V.int IntKind.i64 (nodeF l7 s).2, V.int IntKind.i64 (nodeF l7 s).3, V.str (nodeF l7 s).4, V.int IntKind.i64 (nodeF l7 s).5, V.str (nodeF l7 s).6, V.str (nodeF l7 s).7, V.str (nodeF l7 s).8, V.int IntKind.i64 (nodeF l7 s).9, V.int IntKind.i64 (nodeF l7 s).10, V.str (catS (cutS (nodeF l7 s).11 0 (minI len (lenS (nodeF l7 s).11))) (List.replicate (subI IntKind.i64 len (lenS (nodeF l7 s).11)).toNat 0))] : List V) = [V.int IntKind.i64 x8.1, V.int IntKind.i64 x8.2, V.int IntKind.i64 x8.3, V.str x8.4, V.int IntKind.i64 x8.5, V.str x8.6, V.str x8.7, V.str x8.8, V.int IntKind.i64 x8.9, V.int IntKind.i64 x8.10, V.str x8.11]) ∧ (
          ((((0 : Int) ≤ x8.3)) ∧ (
          ((x8.3 : Int) ≤ 2147483647))) ∧ (
          ∃ l9 : List Node, ∃ y10 : Node, ((xs : List (List V)) = nodeV l9) ∧ (
          (([V.int IntKind.i64 (touchF x8 uid now).1, V.int IntKind.i64 (touchF x8 uid now).2, V.int IntKind.i64 (touchF x8 uid now).3, V.str (touchF x8 uid now).4, V.int IntKind.i64 (touchF x8 uid now).5, V.str (touchF x8 uid now).6, V.str (touchF x8 uid now).7, V.str (touchF x8 uid now).8, V.int IntKind.i64 (touchF x8 uid now).9, V.int IntKind.i64 (touchF x8 uid now).10, V.str (touchF x8 uid now).11] : List V) = [V.int IntKind.i64 y10.1, V.int IntKind.i64 y10.2, V.int IntKind.i64 y10.3, V.str y10.4, V.int IntKind.i64 y10.5, V.str y10.6, V.str y10.7, V.str y10.8, V.int IntKind.i64 y10.9, V.int IntKind.i64 y10.10, V.str y10.11]) ∧ (
          (((l9.length : Nat) ≤ 100000)) ∧ (
          K (V.tup [V.agg [V.int IntKind.i64 next, V.lst (List.take l9.length (List.drop 0 (nodeV (withF l9 y10))))], V.int IntKind.i64 0]) []))))))))))))))) := by kernel_rfl

theorem rna_vc (next : Int) (xs : List (List V)) (s : Int) (name uid : List UInt8) (now : Int) (K : V → List Bk → Prop) : vcF Try.prog cfgN (ctOf [(53, indexCon), (47, cloneCon), (40, nameCon), (52, childCon), (50, changeCon)]) (lpOf []) 56 [.agg [.int .i64 next, .lst xs], .int .i64 s, .str name, .str uid, .int .i64 now] [] K = (
  ∃ l7 : List Node, ((xs : List (List V)) = nodeV l7) ∧ (
  (((l7.length : Nat) ≤ 100000)) ∧ (
  br (ltI (fidx (idP s) l7) 0) (
    ∃ l8 : List Node, ((xs : List (List V)) = nodeV l8) ∧ (
    (((l8.length : Nat) ≤ 100000)) ∧ (
    K (V.tup [V.agg [V.int IntKind.i64 next, V.lst (List.take l8.length (List.drop 0 (nodeV l8)))], V.int IntKind.i64 8]) []))) (
    br (eqI s 1) (
      ∃ l8 : List Node, ((xs : List (List V)) = nodeV l8) ∧ (
      (((l8.length : Nat) ≤ 100000)) ∧ (
      K (V.tup [V.agg [V.int IntKind.i64 next, V.lst (List.take l8.length (List.drop 0 (nodeV l8)))], V.int IntKind.i64 1]) []))) (
      (((name.length : Nat) ≤ 9223372036854775807)) ∧ (
      br (notB (nameB name)) (
        ∃ l8 : List Node, ((xs : List (List V)) = nodeV l8) ∧ (
        (((l8.length : Nat) ≤ 100000)) ∧ (
        K (V.tup [V.agg [V.int IntKind.i64 next, V.lst (List.take l8.length (List.drop 0 (nodeV l8)))], V.int IntKind.i64 6]) []))) (
        need (andB (leI 0 (fidx (idP s) l7)) (ltI (fidx (idP s) l7) (lenL xs))) (
        need (okRow xs (fidx (idP s) l7).toNat 11) (
        ∃ s8 : List UInt8, ((sub (rowAt xs (fidx (idP s) l7)) 3 1 : Option (List V)) = some [V.str s8]) ∧ (
        br (eqS name s8) (
          ∃ l9 : List Node, ((xs : List (List V)) = nodeV l9) ∧ (
          (((l9.length : Nat) ≤ 100000)) ∧ (
          K (V.tup [V.agg [V.int IntKind.i64 next, V.lst (List.take l9.length (List.drop 0 (nodeV l9)))], V.int IntKind.i64 0]) []))) (
          need (andB (leI 0 (fidx (idP s) l7)) (ltI (fidx (idP s) l7) (lenL xs))) (
          need (okRow xs (fidx (idP s) l7).toNat 11) (
          ∃ n9 : Int, ((sub (rowAt xs (fidx (idP s) l7)) 1 1 : Option (List V)) = some [V.int IntKind.i64 n9]) ∧ (
          ∃ l10 : List Node, ((xs : List (List V)) = nodeV l10) ∧ (
          (((l10.length : Nat) ≤ 100000)) ∧ (
          br (leI 0 (fidx (chP n9 name) l10)) (
            ∃ l11 : List Node, ((xs : List (List V)) = nodeV l11) ∧ (
            (((l11.length : Nat) ≤ 100000)) ∧ (
            K (V.tup [V.agg [V.int IntKind.i64 next, V.lst (List.take l11.length (List.drop 0 (nodeV l11)))], V.int IntKind.i64 7]) []))) (
            ∃ l11 : List Node, ((xs : List (List V)) = nodeV l11) ∧ (
            (((l11.length : Nat) ≤ 100000)) ∧ (
            need (andB (leI 0 (fidx (idP s) l7)) (ltI (fidx (idP s) l7) (Int.ofNat l11.length))) (
            need (okRow (nodeV l11) (0 + (fidx (idP s) l7).toNat) 11) (
            ∃ xs12 : List (List V), ((putAt (nodeV l11) (0 + (fidx (idP s) l7).toNat) 3 [V.str name] : Option (List (List V))) = some xs12) ∧ (
            need (andB (leI 0 (fidx (idP s) l7)) (ltI (fidx (idP s) l7) (Int.ofNat l11.length))) (
            need (okRow xs12 (0 + (fidx (idP s) l7).toNat) 11) (
            ∃ n13 : Int, ((partAt xs12 (0 + (fidx (idP s) l7).toNat) 1 1 : Option (List V)) = some [V.int IntKind.i64 n13]) ∧ (
            ∃ l14 : List Node, ((List.take l11.length (List.drop 0 xs12) : List (List V)) = nodeV l14) ∧ (
            (((l14.length : Nat) ≤ 100000)) ∧ (
            ∃ l15 : List Node, ∃ k16 : Nat, ∃ x17 : Node, ((xs12 : List (List V)) = nodeV l15) ∧ (
            ((l11.length : Nat) = l15.length) ∧ (
            (((l15.length : Nat) ≤ 100000)) ∧ (
            ((fidx (idP n13) l14 : Int) = Int.ofNat k16) ∧ (
            ((l15.get?Internal k16 : Option Node) = some x17) ∧ (
            ((((0 : Int) ≤ x17.3)) ∧ (
            ((x17.3 : Int) ≤ 2147483647))) ∧ (
            K (V.tup [V.agg [V.int IntKind.i64 next, V.lst (List.take l11.length (List.drop 0 (nodeV (l15.set k16 (touchF x17 uid now)))))], V.int IntKind.i64 0]) []))))))))))))))))))))))))))))))))) := by kernel_rfl

theorem rrn_vc (next : Int) (xs : List (List V)) (s : Int) (name uid : List UInt8) (now : Int) (K : V → List Bk → Prop) : vcF Try.prog cfgN (ctOf [(21, nodeCon), (42, nameCon), (27, findCon), (70, movedCon), (72, withCon)]) (lpOf []) 62 [.agg [.int .i64 next, .lst xs], .int .i64 s, .str name, .str uid, .int .i64 now] [] K = (
  ∃ l7 : List Node, ((xs : List (List V)) = nodeV l7) ∧ (
  (((l7.length : Nat) ≤ 100000)) ∧ (
  br (notB (hasB l7 s)) (
    K (V.tup [V.agg [V.int IntKind.i64 next, V.lst xs], V.int IntKind.i64 8]) []) (
    br (eqI s 1) (
      K (V.tup [V.agg [V.int IntKind.i64 next, V.lst xs], V.int IntKind.i64 1]) []) (
      (((name.length : Nat) ≤ 9223372036854775807)) ∧ (
      br (notB (nameB name)) (
        K (V.tup [V.agg [V.int IntKind.i64 next, V.lst xs], V.int IntKind.i64 6]) []) (
        br (eqS (nodeF l7 s).4 name) (
          K (V.tup [V.agg [V.int IntKind.i64 next, V.lst xs], V.int IntKind.i64 0]) []) (
          ∃ l8 : List Node, ((xs : List (List V)) = nodeV l8) ∧ (
          (goodT next l8) ∧ (
          br (eqI (findF l8 (nodeF l7 s).par name).2 0) (
            K (V.tup [V.agg [V.int IntKind.i64 next, V.lst xs], V.int IntKind.i64 7]) []) (
            ∃ l9 : List Node, ∃ y10 : Node, ((xs : List (List V)) = nodeV l9) ∧ (
            (([V.int IntKind.i64 (nodeF l7 s).1, V.int IntKind.i64 (nodeF l7 s).2, V.int IntKind.i64 (nodeF l7 s).3, V.str name, V.int IntKind.i64 (nodeF l7 s).5, V.str (nodeF l7 s).6, V.str (nodeF l7 s).7, V.str (nodeF l7 s).8, V.int IntKind.i64 (nodeF l7 s).9, V.int IntKind.i64 (nodeF l7 s).10, V.str (nodeF l7 s).11] : List V) = [V.int IntKind.i64 y10.1, V.int IntKind.i64 y10.2, V.int IntKind.i64 y10.3, V.str y10.4, V.int IntKind.i64 y10.5, V.str y10.6, V.str y10.7, V.str y10.8, V.int IntKind.i64 y10.9, V.int IntKind.i64 y10.10, V.str y10.11]) ∧ (
            (((l9.length : Nat) ≤ 100000)) ∧ (
            ∃ l11 : List Node, ((List.take l9.length (List.drop 0 (nodeV (withF l9 y10))) : List (List V)) = nodeV l11) ∧ (
            (((l11.length : Nat) ≤ 100000)) ∧ (
            ((((0 : Int) ≤ (nodeF l11 (nodeF l7 s).par).3)) ∧ (
            (((nodeF l11 (nodeF l7 s).par).3 : Int) ≤ 2147483647))) ∧ (
            K (V.tup [V.agg [V.int IntKind.i64 next, V.lst (List.take l11.length (List.drop 0 (nodeV (withF l11 (touchF (nodeF l11 (nodeF l7 s).2) uid now)))))], V.int IntKind.i64 0]) []))))))))))))))))) := by kernel_rfl

def at_vc_3 (next : Int) (xs : List (List V)) (s mode : Int) (gid : List UInt8) (mt : Int) (K : V → List Bk → Prop) (xs10 : List (List V)) (l7 : List Node) (l9 : List Node) : Prop :=
  (
                  br (notB (eqI mt (-1))) (
                    ∃ xs11 : List (List V), ((putAt xs10 (0 + (fidx (idP s) l7).toNat) 9 [V.int IntKind.i64 mt] : Option (List (List V))) = some xs11) ∧ (
                    K (V.tup [V.agg [V.int IntKind.i64 next, V.lst (List.take l9.length (List.drop 0 xs11))], V.int IntKind.i64 0]) [])) (
                    K (V.tup [V.agg [V.int IntKind.i64 next, V.lst (List.take l9.length (List.drop 0 xs10))], V.int IntKind.i64 0]) []))
def at_vc_2 (next : Int) (xs : List (List V)) (s mode : Int) (gid : List UInt8) (mt : Int) (K : V → List Bk → Prop) (l7 : List Node) : Prop :=
  (
              ∃ l9 : List Node, ((xs : List (List V)) = nodeV l9) ∧ (
              (((l9.length : Nat) ≤ 100000)) ∧ (
              need (andB (leI 0 (fidx (idP s) l7)) (ltI (fidx (idP s) l7) (Int.ofNat l9.length))) (
              need (okRow (nodeV l9) (0 + (fidx (idP s) l7).toNat) 11) (
              br (notB (eqI mode (-1))) (
                ∃ xs10 : List (List V), ((putAt (nodeV l9) (0 + (fidx (idP s) l7).toNat) 4 [V.int IntKind.i64 mode] : Option (List (List V))) = some xs10) ∧ (
                br (notB (eqS (shortF gid) [])) (
                  ∃ xs11 : List (List V), ((putAt xs10 (0 + (fidx (idP s) l7).toNat) 6 [V.str (shortF gid)] : Option (List (List V))) = some xs11) ∧ (
                  br (notB (eqI mt (-1))) (
                    ∃ xs12 : List (List V), ((putAt xs11 (0 + (fidx (idP s) l7).toNat) 9 [V.int IntKind.i64 mt] : Option (List (List V))) = some xs12) ∧ (
                    K (V.tup [V.agg [V.int IntKind.i64 next, V.lst (List.take l9.length (List.drop 0 xs12))], V.int IntKind.i64 0]) [])) (
                    K (V.tup [V.agg [V.int IntKind.i64 next, V.lst (List.take l9.length (List.drop 0 xs11))], V.int IntKind.i64 0]) []))) (at_vc_3 next xs s mode gid mt K xs10 l7 l9))) (
                br (notB (eqS (shortF gid) [])) (
                  ∃ xs10 : List (List V), ((putAt (nodeV l9) (0 + (fidx (idP s) l7).toNat) 6 [V.str (shortF gid)] : Option (List (List V))) = some xs10) ∧ (at_vc_3 next xs s mode gid mt K xs10 l7 l9)) (
                  br (notB (eqI mt (-1))) (
                    ∃ xs10 : List (List V), ((putAt (nodeV l9) (0 + (fidx (idP s) l7).toNat) 9 [V.int IntKind.i64 mt] : Option (List (List V))) = some xs10) ∧ (
                    K (V.tup [V.agg [V.int IntKind.i64 next, V.lst (List.take l9.length (List.drop 0 xs10))], V.int IntKind.i64 0]) [])) (
                    K (V.tup [V.agg [V.int IntKind.i64 next, V.lst (List.take l9.length (List.drop 0 (nodeV l9)))], V.int IntKind.i64 0]) []))))))))
def at_vc_1 (next : Int) (xs : List (List V)) (s mode : Int) (gid : List UInt8) (mt : Int) (K : V → List Bk → Prop) (l7 : List Node) : Prop :=
  (
          br (notB (eqI mt (-1))) (
            br (notB (eqI mt (clockF mt))) (
              ∃ l9 : List Node, ((xs : List (List V)) = nodeV l9) ∧ (
              (((l9.length : Nat) ≤ 100000)) ∧ (
              K (V.tup [V.agg [V.int IntKind.i64 next, V.lst (List.take l9.length (List.drop 0 (nodeV l9)))], V.int IntKind.i64 5]) []))) (at_vc_2 next xs s mode gid mt K l7)) (at_vc_2 next xs s mode gid mt K l7))
theorem at_vc (next : Int) (xs : List (List V)) (s mode : Int) (gid : List UInt8) (mt : Int) (K : V → List Bk → Prop) : vcF Try.prog cfgN (ctOf [(53, indexCon), (47, cloneCon), (64, intCon validB), (39, intCon dirB), (35, clockCon), (34, shortCon)]) (lpOf []) 57 [.agg [.int .i64 next, .lst xs], .int .i64 s, .int .i64 mode, .str gid, .int .i64 mt] [] K = (
  ∃ l7 : List Node, ((xs : List (List V)) = nodeV l7) ∧ (
  (((l7.length : Nat) ≤ 100000)) ∧ (
  br (ltI (fidx (idP s) l7) 0) (
    ∃ l8 : List Node, ((xs : List (List V)) = nodeV l8) ∧ (
    (((l8.length : Nat) ≤ 100000)) ∧ (
    K (V.tup [V.agg [V.int IntKind.i64 next, V.lst (List.take l8.length (List.drop 0 (nodeV l8)))], V.int IntKind.i64 8]) []))) (
    br (notB (eqI mode (-1))) (
      (((mode : Int) ≤ 9223372036854775807)) ∧ (
      br (notB (validB mode)) (
        ∃ l8 : List Node, ((xs : List (List V)) = nodeV l8) ∧ (
        (((l8.length : Nat) ≤ 100000)) ∧ (
        K (V.tup [V.agg [V.int IntKind.i64 next, V.lst (List.take l8.length (List.drop 0 (nodeV l8)))], V.int IntKind.i64 1]) []))) (
        (((mode : Int) ≤ 9223372036854775807)) ∧ (
        need (andB (leI 0 (fidx (idP s) l7)) (ltI (fidx (idP s) l7) (lenL xs))) (
        need (okRow xs (fidx (idP s) l7).toNat 11) (
        ∃ n8 : Int, ((sub (rowAt xs (fidx (idP s) l7)) 4 1 : Option (List V)) = some [V.int IntKind.i64 n8]) ∧ (
        (((n8 : Int) ≤ 9223372036854775807)) ∧ (
        br (notB (eqB (dirB mode) (dirB n8))) (
          ∃ l9 : List Node, ((xs : List (List V)) = nodeV l9) ∧ (
          (((l9.length : Nat) ≤ 100000)) ∧ (
          K (V.tup [V.agg [V.int IntKind.i64 next, V.lst (List.take l9.length (List.drop 0 (nodeV l9)))], V.int IntKind.i64 1]) []))) (at_vc_1 next xs s mode gid mt K l7))))))))) (at_vc_1 next xs s mode gid mt K l7))))) := by kernel_rfl

def rat_vc_2 (next : Int) (xs : List (List V)) (s mode : Int) (gid : List UInt8) (mt : Int) (K : V → List Bk → Prop) (l7 : List Node) : Prop :=
  (
                br (notB (eqI mode (-1))) (
                  br (notB (eqS (shortF gid) [])) (
                    br (notB (eqI mt (-1))) (
                      ∃ l8 : List Node, ∃ y9 : Node, ((xs : List (List V)) = nodeV l8) ∧ (
                      (([V.int IntKind.i64 (nodeF l7 s).1, V.int IntKind.i64 (nodeF l7 s).2, V.int IntKind.i64 (nodeF l7 s).3, V.str (nodeF l7 s).4, V.int IntKind.i64 mode, V.str (nodeF l7 s).6, V.str gid, V.str (nodeF l7 s).8, V.int IntKind.i64 (nodeF l7 s).9, V.int IntKind.i64 mt, V.str (nodeF l7 s).11] : List V) = [V.int IntKind.i64 y9.1, V.int IntKind.i64 y9.2, V.int IntKind.i64 y9.3, V.str y9.4, V.int IntKind.i64 y9.5, V.str y9.6, V.str y9.7, V.str y9.8, V.int IntKind.i64 y9.9, V.int IntKind.i64 y9.10, V.str y9.11]) ∧ (
                      (((l8.length : Nat) ≤ 100000)) ∧ (
                      K (V.tup [V.agg [V.int IntKind.i64 next, V.lst (List.take l8.length (List.drop 0 (nodeV (withF l8 y9))))], V.int IntKind.i64 0]) [])))) (
                      ∃ l8 : List Node, ∃ y9 : Node, ((xs : List (List V)) = nodeV l8) ∧ (
                      (([V.int IntKind.i64 (nodeF l7 s).1, V.int IntKind.i64 (nodeF l7 s).2, V.int IntKind.i64 (nodeF l7 s).3, V.str (nodeF l7 s).4, V.int IntKind.i64 mode, V.str (nodeF l7 s).6, V.str gid, V.str (nodeF l7 s).8, V.int IntKind.i64 (nodeF l7 s).9, V.int IntKind.i64 (nodeF l7 s).10, V.str (nodeF l7 s).11] : List V) = [V.int IntKind.i64 y9.1, V.int IntKind.i64 y9.2, V.int IntKind.i64 y9.3, V.str y9.4, V.int IntKind.i64 y9.5, V.str y9.6, V.str y9.7, V.str y9.8, V.int IntKind.i64 y9.9, V.int IntKind.i64 y9.10, V.str y9.11]) ∧ (
                      (((l8.length : Nat) ≤ 100000)) ∧ (
                      K (V.tup [V.agg [V.int IntKind.i64 next, V.lst (List.take l8.length (List.drop 0 (nodeV (withF l8 y9))))], V.int IntKind.i64 0]) []))))) (
                    br (notB (eqI mt (-1))) (
                      ∃ l8 : List Node, ∃ y9 : Node, ((xs : List (List V)) = nodeV l8) ∧ (
                      (([V.int IntKind.i64 (nodeF l7 s).1, V.int IntKind.i64 (nodeF l7 s).2, V.int IntKind.i64 (nodeF l7 s).3, V.str (nodeF l7 s).4, V.int IntKind.i64 mode, V.str (nodeF l7 s).6, V.str (nodeF l7 s).7, V.str (nodeF l7 s).8, V.int IntKind.i64 (nodeF l7 s).9, V.int IntKind.i64 mt, V.str (nodeF l7 s).11] : List V) = [V.int IntKind.i64 y9.1, V.int IntKind.i64 y9.2, V.int IntKind.i64 y9.3, V.str y9.4, V.int IntKind.i64 y9.5, V.str y9.6, V.str y9.7, V.str y9.8, V.int IntKind.i64 y9.9, V.int IntKind.i64 y9.10, V.str y9.11]) ∧ (
                      (((l8.length : Nat) ≤ 100000)) ∧ (
                      K (V.tup [V.agg [V.int IntKind.i64 next, V.lst (List.take l8.length (List.drop 0 (nodeV (withF l8 y9))))], V.int IntKind.i64 0]) [])))) (
                      ∃ l8 : List Node, ∃ y9 : Node, ((xs : List (List V)) = nodeV l8) ∧ (
                      (([V.int IntKind.i64 (nodeF l7 s).1, V.int IntKind.i64 (nodeF l7 s).2, V.int IntKind.i64 (nodeF l7 s).3, V.str (nodeF l7 s).4, V.int IntKind.i64 mode, V.str (nodeF l7 s).6, V.str (nodeF l7 s).7, V.str (nodeF l7 s).8, V.int IntKind.i64 (nodeF l7 s).9, V.int IntKind.i64 (nodeF l7 s).10, V.str (nodeF l7 s).11] : List V) = [V.int IntKind.i64 y9.1, V.int IntKind.i64 y9.2, V.int IntKind.i64 y9.3, V.str y9.4, V.int IntKind.i64 y9.5, V.str y9.6, V.str y9.7, V.str y9.8, V.int IntKind.i64 y9.9, V.int IntKind.i64 y9.10, V.str y9.11]) ∧ (
                      (((l8.length : Nat) ≤ 100000)) ∧ (
                      K (V.tup [V.agg [V.int IntKind.i64 next, V.lst (List.take l8.length (List.drop 0 (nodeV (withF l8 y9))))], V.int IntKind.i64 0]) [])))))) (
                  br (notB (eqS (shortF gid) [])) (
                    br (notB (eqI mt (-1))) (
                      ∃ l8 : List Node, ∃ y9 : Node, ((xs : List (List V)) = nodeV l8) ∧ (
                      (([V.int IntKind.i64 (nodeF l7 s).1, V.int IntKind.i64 (nodeF l7 s).2, V.int IntKind.i64 (nodeF l7 s).3, V.str (nodeF l7 s).4, V.int IntKind.i64 (nodeF l7 s).5, V.str (nodeF l7 s).6, V.str gid, V.str (nodeF l7 s).8, V.int IntKind.i64 (nodeF l7 s).9, V.int IntKind.i64 mt, V.str (nodeF l7 s).11] : List V) = [V.int IntKind.i64 y9.1, V.int IntKind.i64 y9.2, V.int IntKind.i64 y9.3, V.str y9.4, V.int IntKind.i64 y9.5, V.str y9.6, V.str y9.7, V.str y9.8, V.int IntKind.i64 y9.9, V.int IntKind.i64 y9.10, V.str y9.11]) ∧ (
                      (((l8.length : Nat) ≤ 100000)) ∧ (
                      K (V.tup [V.agg [V.int IntKind.i64 next, V.lst (List.take l8.length (List.drop 0 (nodeV (withF l8 y9))))], V.int IntKind.i64 0]) [])))) (
                      ∃ l8 : List Node, ∃ y9 : Node, ((xs : List (List V)) = nodeV l8) ∧ (
                      (([V.int IntKind.i64 (nodeF l7 s).1, V.int IntKind.i64 (nodeF l7 s).2, V.int IntKind.i64 (nodeF l7 s).3, V.str (nodeF l7 s).4, V.int IntKind.i64 (nodeF l7 s).5, V.str (nodeF l7 s).6, V.str gid, V.str (nodeF l7 s).8, V.int IntKind.i64 (nodeF l7 s).9, V.int IntKind.i64 (nodeF l7 s).10, V.str (nodeF l7 s).11] : List V) = [V.int IntKind.i64 y9.1, V.int IntKind.i64 y9.2, V.int IntKind.i64 y9.3, V.str y9.4, V.int IntKind.i64 y9.5, V.str y9.6, V.str y9.7, V.str y9.8, V.int IntKind.i64 y9.9, V.int IntKind.i64 y9.10, V.str y9.11]) ∧ (
                      (((l8.length : Nat) ≤ 100000)) ∧ (
                      K (V.tup [V.agg [V.int IntKind.i64 next, V.lst (List.take l8.length (List.drop 0 (nodeV (withF l8 y9))))], V.int IntKind.i64 0]) []))))) (
                    br (notB (eqI mt (-1))) (
                      ∃ l8 : List Node, ∃ y9 : Node, ((xs : List (List V)) = nodeV l8) ∧ (
                      (([V.int IntKind.i64 (nodeF l7 s).1, V.int IntKind.i64 (nodeF l7 s).2, V.int IntKind.i64 (nodeF l7 s).3, V.str (nodeF l7 s).4, V.int IntKind.i64 (nodeF l7 s).5, V.str (nodeF l7 s).6, V.str (nodeF l7 s).7, V.str (nodeF l7 s).8, V.int IntKind.i64 (nodeF l7 s).9, V.int IntKind.i64 mt, V.str (nodeF l7 s).11] : List V) = [V.int IntKind.i64 y9.1, V.int IntKind.i64 y9.2, V.int IntKind.i64 y9.3, V.str y9.4, V.int IntKind.i64 y9.5, V.str y9.6, V.str y9.7, V.str y9.8, V.int IntKind.i64 y9.9, V.int IntKind.i64 y9.10, V.str y9.11]) ∧ (
                      (((l8.length : Nat) ≤ 100000)) ∧ (
                      K (V.tup [V.agg [V.int IntKind.i64 next, V.lst (List.take l8.length (List.drop 0 (nodeV (withF l8 y9))))], V.int IntKind.i64 0]) [])))) (
                      ∃ l8 : List Node, ∃ y9 : Node, ((xs : List (List V)) = nodeV l8) ∧ (
                      (([V.int IntKind.i64 (nodeF l7 s).1, V.int IntKind.i64 (nodeF l7 s).2, V.int IntKind.i64 (nodeF l7 s).3, V.str (nodeF l7 s).4, V.int IntKind.i64 (nodeF l7 s).5, V.str (nodeF l7 s).6, V.str (nodeF l7 s).7, V.str (nodeF l7 s).8, V.int IntKind.i64 (nodeF l7 s).9, V.int IntKind.i64 (nodeF l7 s).10, V.str (nodeF l7 s).11] : List V) = [V.int IntKind.i64 y9.1, V.int IntKind.i64 y9.2, V.int IntKind.i64 y9.3, V.str y9.4, V.int IntKind.i64 y9.5, V.str y9.6, V.str y9.7, V.str y9.8, V.int IntKind.i64 y9.9, V.int IntKind.i64 y9.10, V.str y9.11]) ∧ (
                      (((l8.length : Nat) ≤ 100000)) ∧ (
                      K (V.tup [V.agg [V.int IntKind.i64 next, V.lst (List.take l8.length (List.drop 0 (nodeV (withF l8 y9))))], V.int IntKind.i64 0]) [])))))))
def rat_vc_1 (next : Int) (xs : List (List V)) (s mode : Int) (gid : List UInt8) (mt : Int) (K : V → List Bk → Prop) (l7 : List Node) : Prop :=
  (
          br (notB (eqI mt (-1))) (
            br (ltI mt 0) (
              K (V.tup [V.agg [V.int IntKind.i64 next, V.lst xs], V.int IntKind.i64 5]) []) (
              br (ltI 1099511627776 mt) (
                K (V.tup [V.agg [V.int IntKind.i64 next, V.lst xs], V.int IntKind.i64 5]) []) (rat_vc_2 next xs s mode gid mt K l7))) (rat_vc_2 next xs s mode gid mt K l7))
theorem rat_vc (next : Int) (xs : List (List V)) (s mode : Int) (gid : List UInt8) (mt : Int) (K : V → List Bk → Prop) : vcF Try.prog cfgN (ctOf [(21, nodeCon), (65, intCon validB), (43, intCon isDirB), (36, shortCon), (72, withCon)]) (lpOf []) 63 [.agg [.int .i64 next, .lst xs], .int .i64 s, .int .i64 mode, .str gid, .int .i64 mt] [] K = (
  ∃ l7 : List Node, ((xs : List (List V)) = nodeV l7) ∧ (
  (((l7.length : Nat) ≤ 100000)) ∧ (
  br (notB (hasB l7 s)) (
    K (V.tup [V.agg [V.int IntKind.i64 next, V.lst xs], V.int IntKind.i64 8]) []) (
    br (notB (eqI mode (-1))) (
      (((mode : Int) ≤ 9223372036854775807)) ∧ (
      br (notB (validB mode)) (
        K (V.tup [V.agg [V.int IntKind.i64 next, V.lst xs], V.int IntKind.i64 1]) []) (
        (((mode : Int) ≤ 9223372036854775807)) ∧ (
        ((((nodeF l7 s).5 : Int) ≤ 9223372036854775807)) ∧ (
        br (notB (eqB (isDirB mode) (isDirB (nodeF l7 s).5))) (
          K (V.tup [V.agg [V.int IntKind.i64 next, V.lst xs], V.int IntKind.i64 1]) []) (rat_vc_1 next xs s mode gid mt K l7)))))) (rat_vc_1 next xs s mode gid mt K l7))))) := by kernel_rfl

end Go.Proofs.Ytepehbbagbfmcaa
namespace Go.Proofs.Ytepehbbagbfmcaa
open Go.RowKit
set_option maxRecDepth 100000
set_option linter.unusedVariables false
set_option linter.unusedSimpArgs false
def newT (uid : List UInt8) (perm now : Int) : List Node := [⟨1, 1, 0, [47], 2147483648 + perm % 512, shortF uid, shortF uid, shortF uid, clockF now, clockF now, []⟩]
def newCon : Con := fun vs bs K => match vs, bs with
  | [.str uid, .int .i64 perm, .int .i64 now], [] => -9223372036854775808 ≤ perm ∧ perm ≤ 9223372036854775807 ∧ K (.agg [.int .i64 2, .lst (nodeV (newT uid perm now))]) []
  | _, _ => False
theorem nw_con {n : Nat} (hn : 2 ≤ n) : ConOk (evalF Try.prog cfgN n) 13 newCon := by
  intro vs bs K h
  unfold newCon at h
  split at h
  · rename_i uid perm now
    obtain ⟨h1, h2, hK⟩ := h
    refine run_of (lp := lpOf []) (by omega) (ct := ctOf [(34, shortCon), (35, clockCon)]) (fun k hk => ctOf_ok (ctOf_cons (sho_con (by omega)) (ctOf_cons (clk_con (by omega)) (ctOf_nil _)))) ?_
    rw [nw_vc]
    have e : addI .i64 2147483648 ((addI .i64 (perm.tmod 512) 512).tmod 512) = 2147483648 + perm % 512 := by
      have h3 : -512 < perm.tmod 512 ∧ perm.tmod 512 < 512 := by
        have := Int.tmod_lt_of_pos perm (show (0 : Int) < 512 by omega)
        have := Int.lt_tmod_of_pos perm (show (0 : Int) < 512 by omega)
        omega
      have h4 : (perm.tmod 512 + 512) % 512 = perm % 512 := by
        rw [Int.tmod_eq_emod]
        split <;> omega
      rw [addI_i64 (a := perm.tmod 512) (by omega) (by omega), tmod_pos (by omega), h4, addI_i64 (by omega) (by omega)]
    rw [e]; exact hK
  · exact h.elim
theorem and511 {p : Int} (h1 : -9223372036854775808 ≤ p) (h2 : p ≤ 9223372036854775807) : andI .i64 p 511 = p % 512 := by
  unfold andI
  have e2 : (BitVec.ofInt IntKind.i64.bits (511 : Int)).toNat = 2 ^ 9 - 1 := by decide
  rw [BitVec.toNat_and, e2, Nat.and_two_pow_sub_one_eq_mod]
  have e1 : (BitVec.ofInt IntKind.i64.bits p).toNat = (p % 18446744073709551616).toNat := by
    simp [IntKind.bits, BitVec.toNat_ofInt]
  rw [e1]
  have e3 : (((p % 18446744073709551616).toNat % 2 ^ 9 : Nat) : Int) = p % 512 := by omega
  rw [e3]
  exact wrap64 (by omega) (by omega)
theorem rnw_con {n : Nat} (hn : 2 ≤ n) : ConOk (evalF Try.prog cfgN n) 14 newCon := by
  intro vs bs K h
  unfold newCon at h
  split at h
  · rename_i uid perm now
    obtain ⟨h1, h2, hK⟩ := h
    refine run_of (lp := lpOf []) (by omega) (ct := ctOf [(36, shortCon), (37, clockCon)]) (fun k hk => ctOf_ok (ctOf_cons (rsho_con (by omega)) (ctOf_cons (rclk_con (by omega)) (ctOf_nil _)))) ?_
    rw [rnw_vc, and511 h1 h2, addI_i64 (by omega) (by omega)]
    exact hK
  · exact h.elim
-- Read
def readF (l : List Node) (s off cnt : Int) : List UInt8 × Int := if fileE l s ≠ 0 then ([], fileE l s) else if off < 0 ∨ cnt < 0 then ([], 1) else ((((nodeF l s).data.drop off.toNat).take cnt.toNat), 0)
def readCon : Con := fun vs bs K => match vs, bs with
  | [.agg [.int .i64 n, .lst xs], .int .i64 s, .int .i64 off, .int .i64 cnt], [] => ∃ l, xs = nodeV l ∧ goodT n l ∧ off ≤ 9223372036854775807 ∧ cnt ≤ 9223372036854775807 ∧ K (.tup [.str (readF l s off cnt).1, .int .i64 (readF l s off cnt).2]) []
  | _, _ => False
theorem file_at {l : List Node} {s : Int} (h : fileE l s = 0) : ∃ (k : Nat) (x : Node), l[k]? = some x ∧ x.id = s ∧ nodeF l s = x ∧ hasB l s = true ∧ fileI l s = (k : Int) ∧ k < l.length ∧ dirB x.mode = false ∧ fidx (idP s) l = (k : Int) := by
  have h' := h
  unfold fileE at h
  split at h
  · rename_i hh
    split at h
    · omega
    · rename_i hd
      rcases fidx_cases (idP s) l with ⟨_, h2⟩ | ⟨k, f, h1, gf, h3, h4, hlt⟩
      · rw [(node_no h2).2] at hh; cases hh
      · have e := (node_at gf h3 h4).1
        rw [idP_t] at h3
        exact ⟨k, f, gf, h3, e, hh, by unfold fileI; rw [if_pos h', h1], hlt, by rw [e] at hd; simpa using hd, h1⟩
  · omega
theorem rd_con {n : Nat} (hn : 5 ≤ n) : ConOk (evalF Try.prog cfgN n) 18 readCon := by
  intro vs bs K h
  unfold readCon at h
  split at h
  · rename_i nx xs s off cnt
    obtain ⟨l, rfl, hg, ho, hc, hK⟩ := h
    have hb : l.length ≤ 100000 := by have := hg.2.1; omega
    refine run_of (lp := lpOf []) (by omega) (ct := ctOf [(44, fileCon)]) (fun k hk => ctOf_ok (ctOf_cons (fl_con (by omega)) (ctOf_nil _))) ?_
    rw [rd_vc]
    unfold readF at hK
    refine ⟨l, rfl, hb, mode_le hg s, br_iff.2 ⟨fun g => ?_, fun g => br_iff.2 ⟨fun g2 => ?_, fun g2 => br_iff.2 ⟨fun g3 => ?_, fun g3 => ?_⟩⟩⟩⟩ <;> simp only [br_iff, need_iff, andB_t, andB_f, orB_t, orB_f, notB_t, notB_f, leI_t, leI_f, ltI_t, ltI_f, eqI_t, eqI_f, leN_t, leN_f, eqN_t, eqN_f, eqS_t, eqS_f, eqB_t, eqB_f, catOk_t, leC_t] at g
    · rw [if_pos g] at hK; exact hK
    · simp only [br_iff, need_iff, andB_t, andB_f, orB_t, orB_f, notB_t, notB_f, leI_t, leI_f, ltI_t, ltI_f, eqI_t, eqI_f, leN_t, leN_f, eqN_t, eqN_f, eqS_t, eqS_f, eqB_t, eqB_f, catOk_t, leC_t] at g2
      rw [if_neg (by simp [g]), if_pos (.inl g2)] at hK; exact hK
    · simp only [br_iff, need_iff, andB_t, andB_f, orB_t, orB_f, notB_t, notB_f, leI_t, leI_f, ltI_t, ltI_f, eqI_t, eqI_f, leN_t, leN_f, eqN_t, eqN_f, eqS_t, eqS_f, eqB_t, eqB_f, catOk_t, leC_t] at g2 g3
      rw [if_neg (by simp [g]), if_pos (.inr g3)] at hK; exact hK
    · simp only [br_iff, need_iff, andB_t, andB_f, orB_t, orB_f, notB_t, notB_f, leI_t, leI_f, ltI_t, ltI_f, eqI_t, eqI_f, leN_t, leN_f, eqN_t, eqN_f, eqS_t, eqS_f, eqB_t, eqB_f, catOk_t, leC_t] at g2 g3
      rw [if_neg (by simp [g]), if_neg (by omega)] at hK
      obtain ⟨k, x, gx, _, e, _, ei, hlt, _⟩ := file_at g
      rw [e] at hK
      rw [ei]
      simp only [nodeV_lenL]
      have gq : l[k]? = some l[k] := List.getElem?_eq_getElem hlt
      generalize l[k] = q at gq
      have rq := nodeV_row gq
      have kq : okRow (nodeV l) (Int.toNat (k : Int)) 11 = true := by simpa using nodeV_ok (l := l) (i := k) hlt
      have nq : andB (leI 0 (k : Int)) (ltI (k : Int) (l.length : Int)) = true := by simp only [br_iff, need_iff, andB_t, andB_f, orB_t, orB_f, notB_t, notB_f, leI_t, leI_f, ltI_t, ltI_f, eqI_t, eqI_f, leN_t, leN_f, eqN_t, eqN_f, eqS_t, eqS_f, eqB_t, eqB_f, catOk_t, leC_t]; omega
      obtain rfl := Option.some.inj (gx.symm.trans gq)
      rw [need_iff, need_iff]
      refine ⟨nq, kq, ?_⟩
      try rw [rq]
      repeat apply Exists.intro
      refine ⟨rfl, ?_⟩
      refine need_iff.2 ⟨by simp only [br_iff, need_iff, andB_t, andB_f, orB_t, orB_f, notB_t, notB_f, leI_t, leI_f, ltI_t, ltI_f, eqI_t, eqI_f, leN_t, leN_f, eqN_t, eqN_f, eqS_t, eqS_f, eqB_t, eqB_f, catOk_t, leC_t, minI, lenS]; omega, need_iff.2 ⟨by simp only [br_iff, need_iff, andB_t, andB_f, orB_t, orB_f, notB_t, notB_f, leI_t, leI_f, ltI_t, ltI_f, eqI_t, eqI_f, leN_t, leN_f, eqN_t, eqN_f, eqS_t, eqS_f, eqB_t, eqB_f, catOk_t, leC_t, minI, lenS]; omega, ?_⟩⟩
      have e1 : cutS x.data (minI off (lenS x.data)) (lenS x.data) = x.data.drop off.toNat := by
        unfold cutS
        have : (minI off (lenS x.data)).toNat = min off.toNat x.data.length := by simp only [minI, lenS]; omega
        rw [this]
        rcases Nat.le_total off.toNat x.data.length with q | q
        · rw [Nat.min_eq_left q, List.take_of_length_le (by simp [lenS])]
        · rw [Nat.min_eq_right q, List.drop_of_length_le (Nat.le_refl _), List.drop_of_length_le q]; simp
      have e2 : ∀ u : List UInt8, cutS u 0 (minI cnt (lenS u)) = u.take cnt.toNat := by
        intro u
        unfold cutS
        have : (minI cnt (lenS u)).toNat - (0 : Int).toNat = min cnt.toNat u.length := by simp only [minI, lenS]; omega
        rw [this]
        simp only [Int.toNat_zero, List.drop_zero]
        rcases Nat.le_total cnt.toNat u.length with q | q
        · rw [Nat.min_eq_left q]
        · rw [Nat.min_eq_right q, List.take_of_length_le (Nat.le_refl _), List.take_of_length_le q]
      rw [e1, e2]
      exact hK
  · exact h.elim
theorem rrd_con {n : Nat} (hn : 4 ≤ n) : ConOk (evalF Try.prog cfgN n) 19 readCon := by
  intro vs bs K h
  unfold readCon at h
  split at h
  · rename_i nx xs s off cnt
    obtain ⟨l, rfl, hg, ho, hc, hK⟩ := h
    refine run_of (lp := lpOf []) (by omega) (ct := ctOf [(45, rfileCon)]) (fun k hk => ctOf_ok (ctOf_cons (rfl_con (by omega)) (ctOf_nil _))) ?_
    rw [rrd_vc]
    unfold readF at hK
    refine ⟨l, rfl, hg, br_iff.2 ⟨fun g => ?_, fun g => br_iff.2 ⟨fun g2 => ?_, fun g2 => br_iff.2 ⟨fun g3 => ?_, fun g3 => ?_⟩⟩⟩⟩ <;> simp only [br_iff, need_iff, andB_t, andB_f, orB_t, orB_f, notB_t, notB_f, leI_t, leI_f, ltI_t, ltI_f, eqI_t, eqI_f, leN_t, leN_f, eqN_t, eqN_f, eqS_t, eqS_f, eqB_t, eqB_f, catOk_t, leC_t] at g
    · rw [if_pos g] at hK; exact hK
    · simp only [br_iff, need_iff, andB_t, andB_f, orB_t, orB_f, notB_t, notB_f, leI_t, leI_f, ltI_t, ltI_f, eqI_t, eqI_f, leN_t, leN_f, eqN_t, eqN_f, eqS_t, eqS_f, eqB_t, eqB_f, catOk_t, leC_t] at g2
      rw [if_neg (by simp [g]), if_pos (.inl g2)] at hK; exact hK
    · simp only [br_iff, need_iff, andB_t, andB_f, orB_t, orB_f, notB_t, notB_f, leI_t, leI_f, ltI_t, ltI_f, eqI_t, eqI_f, leN_t, leN_f, eqN_t, eqN_f, eqS_t, eqS_f, eqB_t, eqB_f, catOk_t, leC_t] at g2 g3
      rw [if_neg (by simp [g]), if_pos (.inr g3)] at hK; exact hK
    · simp only [br_iff, need_iff, andB_t, andB_f, orB_t, orB_f, notB_t, notB_f, leI_t, leI_f, ltI_t, ltI_f, eqI_t, eqI_f, leN_t, leN_f, eqN_t, eqN_f, eqS_t, eqS_f, eqB_t, eqB_f, catOk_t, leC_t] at g2 g3
      rw [if_neg (by simp [g]), if_neg (by omega)] at hK
      obtain ⟨k, x, gx, _, e, _, ei, hlt, _⟩ := file_at g
      have hdl : x.data.length ≤ 65536 := (sound_iff.1 (hg.2.2.2 k x gx).1).2.2.2.2.2.2.2.2.2.2.1
      rw [e] at hK ⊢
      refine br_iff.2 ⟨fun g4 => ?_, fun g4 => ?_⟩ <;> simp only [br_iff, need_iff, andB_t, andB_f, orB_t, orB_f, notB_t, notB_f, leI_t, leI_f, ltI_t, ltI_f, eqI_t, eqI_f, leN_t, leN_f, eqN_t, eqN_f, eqS_t, eqS_f, eqB_t, eqB_f, catOk_t, leC_t, lenS] at g4
      · rw [List.drop_of_length_le (by omega)] at hK
        simpa using hK
      · have e1 : addI .i64 off (minI cnt (subI .i64 (lenS x.data) off)) = off + min cnt (x.data.length - off) := by
          rw [subI_i64 (by simp only [lenS]; omega) (by simp only [lenS]; omega)]
          simp only [minI, lenS]
          exact addI_i64 (by omega) (by omega)
        rw [e1]
        refine need_iff.2 ⟨by simp only [br_iff, need_iff, andB_t, andB_f, orB_t, orB_f, notB_t, notB_f, leI_t, leI_f, ltI_t, ltI_f, eqI_t, eqI_f, leN_t, leN_f, eqN_t, eqN_f, eqS_t, eqS_f, eqB_t, eqB_f, catOk_t, leC_t, lenS]; omega, need_iff.2 ⟨by simp only [br_iff, need_iff, andB_t, andB_f, orB_t, orB_f, notB_t, notB_f, leI_t, leI_f, ltI_t, ltI_f, eqI_t, eqI_f, leN_t, leN_f, eqN_t, eqN_f, eqS_t, eqS_f, eqB_t, eqB_f, catOk_t, leC_t]; omega, ?_⟩⟩
        have e2 : cutS x.data off (off + min cnt (x.data.length - off)) = (x.data.drop off.toNat).take cnt.toNat := by
          unfold cutS
          have : (off + min cnt ((x.data.length : Int) - off)).toNat - off.toNat = min cnt.toNat (x.data.length - off.toNat) := by omega
          rw [this]
          rcases Nat.le_total cnt.toNat (x.data.length - off.toNat) with q | q
          · rw [Nat.min_eq_left q]
          · rw [Nat.min_eq_right q, List.take_of_length_le (by simp), List.take_of_length_le (by simpa using q)]
        rw [e2]
        exact hK
  · exact h.elim
-- what a call gives
theorem take_all (l : List Node) : List.take l.length (List.drop 0 (nodeV l)) = nodeV l := by rw [List.drop_zero, nodeV_all]
theorem with_set {n : Int} {l : List Node} (h : goodT n l) {k : Nat} {x y : Node} (gx : l[k]? = some x) (e : y.id = x.id) : withF l y = l.set k y := by
  apply List.ext_getElem?
  intro j
  unfold withF
  rw [List.getElem?_map, List.getElem?_set]
  have hk := (List.getElem?_eq_some_iff.1 gx).1
  by_cases hj : k = j
  · subst hj
    rw [if_pos rfl, if_pos hk, gx]
    simp [e]
  · rw [if_neg hj]
    cases hq : l[j]? with
    | none => rfl
    | some z =>
      have : z.id ≠ y.id := fun q => hj (good_uniq h gx hq (by omega))
      simp [this]
theorem touch_id (x : Node) (uid : List UInt8) (now : Int) : (touchF x uid now).id = x.id := rfl
theorem vers_ok {n : Int} {l : List Node} (h : goodT n l) (s : Int) : 0 ≤ (nodeF l s).vers ∧ (nodeF l s).vers ≤ 2147483647 := by
  cases hb : hasB l s with
  | true =>
    obtain ⟨k, x, gx, _, e, _⟩ := has_at hb
    rw [e]
    have := sound_iff.1 (h.2.2.2 k x gx).1
    exact ⟨this.2.1, this.2.2.1⟩
  | false => rw [(has_not hb).2]; decide
theorem within_at {l : List Node} {d : Int} (h : withinF l d = 0) : hasB l d = true ∧ dirB (nodeF l d).mode = true := by
  unfold withinF at h
  split at h
  · split at h
    · exact ⟨by assumption, by assumption⟩
    · omega
  · omega
def createF (n : Int) (l : List Node) (d : Int) (name : List UInt8) (mode : Int) (uid gid : List UInt8) (now : Int) : (Int × List Node) × Int × Int :=
  if withinF l d ≠ 0 then ((n, l), 0, withinF l d) else if nameB name = false then ((n, l), 0, 6) else if validB mode = false then ((n, l), 0, 1) else if (l.find? (chP d name)).isSome = true then ((n, l), 0, 7)
  else if 1024 ≤ l.length ∨ 1048575 < n then ((n, l), 0, 22)
  else ((n + 1, withF l (touchF (nodeF l d) uid now) ++ [⟨n, d, 0, name, mode, shortF uid, shortF gid, shortF uid, clockF now, clockF now, []⟩]), n, 0)
def createCon : Con := fun vs bs K => match vs, bs with
  | [.agg [.int .i64 n, .lst xs], .int .i64 d, .str name, .int .i64 mode, .str uid, .str gid, .int .i64 now], [] => ∃ l, xs = nodeV l ∧ goodT n l ∧ name.length ≤ 9223372036854775807 ∧ mode ≤ 9223372036854775807 ∧
      K (.tup [.agg [.int .i64 (createF n l d name mode uid gid now).1.1, .lst (nodeV (createF n l d name mode uid gid now).1.2)], .int .i64 (createF n l d name mode uid gid now).2.1, .int .i64 (createF n l d name mode uid gid now).2.2]) []
  | _, _ => False
theorem good_next {n : Int} {l : List Node} (h : goodT n l) : 2 ≤ n ∧ n ≤ 1048576 := by
  have h0 : 0 < l.length := by have := h.1; omega
  have g0 : l[0]? = some l[0] := List.getElem?_eq_getElem h0
  have := h.2.2.2 0 _ g0
  have h1 := this.2.1
  have h2 := (this.2.2.1 rfl).1
  have := h.2.2.1
  omega
theorem cr_con {n : Nat} (hn : 6 ≤ n) : ConOk (evalF Try.prog cfgN n) 33 createCon := by
  intro vs bs K h
  unfold createCon at h
  split at h
  · rename_i nx xs d name mode uid gid now
    obtain ⟨l, rfl, hg, hnl, hml, hK⟩ := h
    have hb : l.length ≤ 100000 := by have := hg.2.1; omega
    have hnx := good_next hg
    refine run_of (lp := lpOf []) (by omega) (ct := ctOf [(51, withinCon), (40, nameCon), (64, intCon validB), (52, childCon), (47, cloneCon), (53, indexCon), (50, changeCon), (35, clockCon), (34, shortCon)])
      (fun k hk => ctOf_ok (ctOf_cons (wi_con (by omega)) (ctOf_cons (pv_con (by omega)) (ctOf_cons (val_con (by omega)) (ctOf_cons (cx_con (by omega)) (ctOf_cons (cl_con (by omega)) (ctOf_cons (ix_con (by omega)) (ctOf_cons (cg_con (by omega)) (ctOf_cons (clk_con (by omega)) (ctOf_cons (sho_con (by omega)) (ctOf_nil _))))))))))) ?_
    rw [cr_vc]
    have e : ∀ {n' : Int} {l' : List Node} {i e : Int}, ((n', l'), i, e) = createF nx l d name mode uid gid now → K (.tup [.agg [.int .i64 n', .lst (nodeV l')], .int .i64 i, .int .i64 e]) [] := fun q => by rw [← q] at hK; exact hK
    unfold createF at e
    simp only [nodeV_lenL]
    refine ⟨l, rfl, hb, mode_le hg d, br_iff.2 ⟨fun g => ⟨l, rfl, hb, ?_⟩, fun g1 => ⟨hnl, br_iff.2 ⟨fun g => ⟨l, rfl, hb, ?_⟩, fun g2 => ⟨hml, br_iff.2 ⟨fun g => ⟨l, rfl, hb, ?_⟩, fun g3 => ⟨l, rfl, hb, ?_⟩⟩⟩⟩⟩⟩⟩
    · simp only [br_iff, need_iff, andB_t, andB_f, orB_t, orB_f, notB_t, notB_f, leI_t, leI_f, ltI_t, ltI_f, eqI_t, eqI_f, leN_t, leN_f, eqN_t, eqN_f, eqS_t, eqS_f, eqB_t, eqB_f, catOk_t, leC_t] at g
      rw [take_all]; exact e (by rw [if_pos g])
    · simp only [br_iff, need_iff, andB_t, andB_f, orB_t, orB_f, notB_t, notB_f, leI_t, leI_f, ltI_t, ltI_f, eqI_t, eqI_f, leN_t, leN_f, eqN_t, eqN_f, eqS_t, eqS_f, eqB_t, eqB_f, catOk_t, leC_t] at g1 g
      rw [take_all]; exact e (by rw [if_neg (by simp [g1]), if_pos g])
    · simp only [br_iff, need_iff, andB_t, andB_f, orB_t, orB_f, notB_t, notB_f, leI_t, leI_f, ltI_t, ltI_f, eqI_t, eqI_f, leN_t, leN_f, eqN_t, eqN_f, eqS_t, eqS_f, eqB_t, eqB_f, catOk_t, leC_t] at g1 g2 g
      rw [take_all]; exact e (by rw [if_neg (by simp [g1]), if_neg (by simp [g2]), if_pos g])
    · simp only [br_iff, need_iff, andB_t, andB_f, orB_t, orB_f, notB_t, notB_f, leI_t, leI_f, ltI_t, ltI_f, eqI_t, eqI_f, leN_t, leN_f, eqN_t, eqN_f, eqS_t, eqS_f, eqB_t, eqB_f, catOk_t, leC_t] at g1 g2 g3
      rcases fidx_cases (chP d name) l with ⟨h1, h2⟩ | ⟨k, f, h1, gf, h3, h4, hlt⟩
      · rw [h1]
        rw [if_neg (by simp [g1]), if_neg (by simp [g2]), if_neg (by simp [g3]), if_neg (by rw [find_no h2]; simp)] at e
        refine br_iff.2 ⟨(fun g => by cases g), fun _ => br_iff.2 ⟨fun g => ?_, fun g4 => br_iff.2 ⟨fun g => ?_, fun g5 => ?_⟩⟩⟩
        · simp only [br_iff, need_iff, andB_t, andB_f, orB_t, orB_f, notB_t, notB_f, leI_t, leI_f, ltI_t, ltI_f, eqI_t, eqI_f, leN_t, leN_f, eqN_t, eqN_f, eqS_t, eqS_f, eqB_t, eqB_f, catOk_t, leC_t] at g
          exact ⟨l, rfl, hb, by rw [take_all]; exact e (by rw [if_pos (by omega)])⟩
        · simp only [br_iff, need_iff, andB_t, andB_f, orB_t, orB_f, notB_t, notB_f, leI_t, leI_f, ltI_t, ltI_f, eqI_t, eqI_f, leN_t, leN_f, eqN_t, eqN_f, eqS_t, eqS_f, eqB_t, eqB_f, catOk_t, leC_t] at g
          exact ⟨l, rfl, hb, by rw [take_all]; exact e (by rw [if_pos (by omega)])⟩
        · simp only [br_iff, need_iff, andB_t, andB_f, orB_t, orB_f, notB_t, notB_f, leI_t, leI_f, ltI_t, ltI_f, eqI_t, eqI_f, leN_t, leN_f, eqN_t, eqN_f, eqS_t, eqS_f, eqB_t, eqB_f, catOk_t, leC_t] at g4 g5
          rw [if_neg (by omega)] at e
          obtain ⟨hh, _⟩ := within_at g1
          rcases fidx_cases (idP d) l with ⟨_, q2⟩ | ⟨k, x, q1, gx, q3, q4, hlt⟩
          · rw [(node_no q2).2] at hh; cases hh
          · have en := (node_at gx q3 q4).1
            rw [en] at e
            have hv := sound_iff.1 (hg.2.2.2 k x gx).1
            refine ⟨l, rfl, hb, l, take_all l, hb, l, k, x, rfl, rfl, hb, q1, gx, ⟨hv.2.1, hv.2.2.1⟩, need_iff.2 ⟨nodeV_head _, app_br rfl (by simp [nodeV_len]) (by omega) ?_⟩⟩
            rw [addI_i64 (by omega) (by omega)]
            have e2 : List.take (l.length + 1) (List.drop 0 (List.drop 0 (nodeV (l.set k (touchF x uid now))) ++ [[V.int IntKind.i64 nx, V.int IntKind.i64 d, V.int IntKind.i64 0, V.str name, V.int IntKind.i64 mode, V.str (shortF uid), V.str (shortF gid), V.str (shortF uid), V.int IntKind.i64 (clockF now), V.int IntKind.i64 (clockF now), V.str []]])) =
                nodeV (withF l (touchF x uid now) ++ [⟨nx, d, 0, name, mode, shortF uid, shortF gid, shortF uid, clockF now, clockF now, []⟩]) := by
              rw [with_set hg gx (touch_id _ _ _), ← nodeV_add, List.drop_zero, List.drop_zero, List.take_of_length_le (by simp [nodeV_len])]
              rfl
            rw [e2]
            exact e rfl
      · rw [h1]
        rw [if_neg (by simp [g1]), if_neg (by simp [g2]), if_neg (by simp [g3]), if_pos (by rw [find_at gf h3 h4]; rfl)] at e
        refine br_iff.2 ⟨fun g => ⟨l, rfl, hb, by rw [take_all]; exact e rfl⟩, fun g => by simp only [br_iff, need_iff, andB_t, andB_f, orB_t, orB_f, notB_t, notB_f, leI_t, leI_f, ltI_t, ltI_f, eqI_t, eqI_f, leN_t, leN_f, eqN_t, eqN_f, eqS_t, eqS_f, eqB_t, eqB_f, catOk_t, leC_t] at g; omega⟩
  · exact h.elim
theorem rcr_con {n : Nat} (hn : 4 ≤ n) : ConOk (evalF Try.prog cfgN n) 58 createCon := by
  intro vs bs K h
  unfold createCon at h
  split at h
  · rename_i nx xs d name mode uid gid now
    obtain ⟨l, rfl, hg, hnl, hml, hK⟩ := h
    have hb : l.length ≤ 100000 := by have := hg.2.1; omega
    have hnx := good_next hg
    refine run_of (lp := lpOf []) (by omega) (ct := ctOf [(21, nodeCon), (43, intCon isDirB), (42, nameCon), (65, intCon validB), (27, findCon), (70, movedCon), (37, clockCon), (36, shortCon)])
      (fun k hk => ctOf_ok (ctOf_cons (rno_con (by omega)) (ctOf_cons (risd_con (by omega)) (ctOf_cons (rv_con (by omega)) (ctOf_cons (rmod_con (by omega)) (ctOf_cons (rfd_con (by omega)) (ctOf_cons (mv_con (by omega)) (ctOf_cons (rclk_con (by omega)) (ctOf_cons (rsho_con (by omega)) (ctOf_nil _)))))))))) ?_
    rw [rcr_vc]
    have e : ∀ {n' : Int} {l' : List Node} {i e : Int}, ((n', l'), i, e) = createF nx l d name mode uid gid now → K (.tup [.agg [.int .i64 n', .lst (nodeV l')], .int .i64 i, .int .i64 e]) [] := fun q => by rw [← q] at hK; exact hK
    unfold createF at e
    simp only [nodeV_lenL]
    refine ⟨l, rfl, hb, br_iff.2 ⟨fun g => e ?_, fun g1 => ⟨mode_le hg d, br_iff.2 ⟨fun g => e ?_, fun g2 => ⟨hnl, br_iff.2 ⟨fun g => e ?_, fun g3 => ⟨hml, br_iff.2 ⟨fun g => e ?_, fun g4 => ⟨l, rfl, hg, ?_⟩⟩⟩⟩⟩⟩⟩⟩⟩
    · simp only [br_iff, need_iff, andB_t, andB_f, orB_t, orB_f, notB_t, notB_f, leI_t, leI_f, ltI_t, ltI_f, eqI_t, eqI_f, leN_t, leN_f, eqN_t, eqN_f, eqS_t, eqS_f, eqB_t, eqB_f, catOk_t, leC_t] at g
      have hw : withinF l d = 8 := by simp [withinF, g]
      rw [hw]; rfl
    · simp only [br_iff, need_iff, andB_t, andB_f, orB_t, orB_f, notB_t, notB_f, leI_t, leI_f, ltI_t, ltI_f, eqI_t, eqI_f, leN_t, leN_f, eqN_t, eqN_f, eqS_t, eqS_f, eqB_t, eqB_f, catOk_t, leC_t] at g1 g
      rw [isdir_eq hg] at g
      have hw : withinF l d = 9 := by simp [withinF, g1, g]
      rw [hw]; rfl
    · simp only [br_iff, need_iff, andB_t, andB_f, orB_t, orB_f, notB_t, notB_f, leI_t, leI_f, ltI_t, ltI_f, eqI_t, eqI_f, leN_t, leN_f, eqN_t, eqN_f, eqS_t, eqS_f, eqB_t, eqB_f, catOk_t, leC_t] at g1 g2 g
      rw [isdir_eq hg] at g2
      have hw : withinF l d = 0 := by simp [withinF, g1, g2]
      rw [hw, if_neg (by simp), if_pos g]
    · simp only [br_iff, need_iff, andB_t, andB_f, orB_t, orB_f, notB_t, notB_f, leI_t, leI_f, ltI_t, ltI_f, eqI_t, eqI_f, leN_t, leN_f, eqN_t, eqN_f, eqS_t, eqS_f, eqB_t, eqB_f, catOk_t, leC_t] at g1 g2 g3 g
      rw [isdir_eq hg] at g2
      have hw : withinF l d = 0 := by simp [withinF, g1, g2]
      rw [hw, if_neg (by simp), if_neg (by simp [g3]), if_pos g]
    · simp only [br_iff, need_iff, andB_t, andB_f, orB_t, orB_f, notB_t, notB_f, leI_t, leI_f, ltI_t, ltI_f, eqI_t, eqI_f, leN_t, leN_f, eqN_t, eqN_f, eqS_t, eqS_f, eqB_t, eqB_f, catOk_t, leC_t] at g1 g2 g3 g4
      rw [isdir_eq hg] at g2
      have hw : withinF l d = 0 := by simp [withinF, g1, g2]
      rw [hw, if_neg (by simp), if_neg (by simp [g3]), if_neg (by simp [g4])] at e
      have hdd : name ≠ [46, 46] := by
        simp only [nameB, Bool.and_eq_true, decide_eq_true_eq] at g3
        exact g3.1.2.2.1
      have hf : findF l d name = match l.find? (chP d name) with
          | some x => (x.id, 0)
          | none => (0, 8) := by unfold findF; rw [hw, if_neg (by simp), if_neg hdd]; rfl
      refine br_iff.2 ⟨fun g => e ?_, fun g5 => br_iff.2 ⟨fun g => e ?_, fun g6 => br_iff.2 ⟨fun g => e ?_, fun g7 => ?_⟩⟩⟩
      · simp only [br_iff, need_iff, andB_t, andB_f, orB_t, orB_f, notB_t, notB_f, leI_t, leI_f, ltI_t, ltI_f, eqI_t, eqI_f, leN_t, leN_f, eqN_t, eqN_f, eqS_t, eqS_f, eqB_t, eqB_f, catOk_t, leC_t] at g
        rw [hf] at g
        cases hq : l.find? (chP d name) with
        | none => rw [hq] at g; simp at g
        | some x => rfl
      · simp only [br_iff, need_iff, andB_t, andB_f, orB_t, orB_f, notB_t, notB_f, leI_t, leI_f, ltI_t, ltI_f, eqI_t, eqI_f, leN_t, leN_f, eqN_t, eqN_f, eqS_t, eqS_f, eqB_t, eqB_f, catOk_t, leC_t] at g5 g
        rw [hf] at g5
        cases hq : l.find? (chP d name) with
        | some x => rw [hq] at g5; simp at g5
        | none => rw [if_neg (by simp), if_pos (by omega)]
      · simp only [br_iff, need_iff, andB_t, andB_f, orB_t, orB_f, notB_t, notB_f, leI_t, leI_f, ltI_t, ltI_f, eqI_t, eqI_f, leN_t, leN_f, eqN_t, eqN_f, eqS_t, eqS_f, eqB_t, eqB_f, catOk_t, leC_t] at g5 g
        rw [hf] at g5
        cases hq : l.find? (chP d name) with
        | some x => rw [hq] at g5; simp at g5
        | none => rw [if_neg (by simp), if_pos (by omega)]
      · simp only [br_iff, need_iff, andB_t, andB_f, orB_t, orB_f, notB_t, notB_f, leI_t, leI_f, ltI_t, ltI_f, eqI_t, eqI_f, leN_t, leN_f, eqN_t, eqN_f, eqS_t, eqS_f, eqB_t, eqB_f, catOk_t, leC_t] at g5 g6 g7
        rw [hf] at g5
        cases hq : l.find? (chP d name) with
        | some x => rw [hq] at g5; simp at g5
        | none =>
          rw [hq, if_neg (by simp), if_neg (by omega)] at e
          refine ⟨l, rfl, hb, vers_ok hg d, need_iff.2 ⟨nodeV_head _, app_br rfl (by rw [nodeV_len, with_len]) (by omega) ?_⟩⟩
          rw [addI_i64 (by omega) (by omega)]
          have e2 : List.take (l.length + 1) (List.drop 0 (List.drop 0 (nodeV (withF l (touchF (nodeF l d) uid now))) ++ [[V.int IntKind.i64 nx, V.int IntKind.i64 d, V.int IntKind.i64 0, V.str name, V.int IntKind.i64 mode, V.str (shortF uid), V.str (shortF gid), V.str (shortF uid), V.int IntKind.i64 (clockF now), V.int IntKind.i64 (clockF now), V.str []]])) =
              nodeV (withF l (touchF (nodeF l d) uid now) ++ [⟨nx, d, 0, name, mode, shortF uid, shortF gid, shortF uid, clockF now, clockF now, []⟩]) := by
            rw [← nodeV_add, List.drop_zero, List.drop_zero, List.take_of_length_le (by simp [nodeV_len, with_len])]
            rfl
          rw [e2]
          exact e rfl
  · exact h.elim
end Go.Proofs.Ytepehbbagbfmcaa
namespace Go.Proofs.Ytepehbbagbfmcaa
open Go.RowKit
set_option maxRecDepth 100000
set_option linter.unusedVariables false
set_option linter.unusedSimpArgs false
theorem cut_head {c : Int} (s : List UInt8) (h : 0 ≤ c) : cutS s 0 (minI c (lenS s)) = s.take c.toNat := by
  unfold cutS
  have : (minI c (lenS s)).toNat - (0 : Int).toNat = min c.toNat s.length := by simp only [minI, lenS]; omega
  rw [this]
  simp only [Int.toNat_zero, List.drop_zero]
  rcases Nat.le_total c.toNat s.length with q | q
  · rw [Nat.min_eq_left q]
  · rw [Nat.min_eq_right q, List.take_of_length_le (Nat.le_refl _), List.take_of_length_le q]
theorem cut_tail {c : Int} (s : List UInt8) (h : 0 ≤ c) : cutS s (minI c (lenS s)) (lenS s) = s.drop c.toNat := by
  unfold cutS
  have : (minI c (lenS s)).toNat = min c.toNat s.length := by simp only [minI, lenS]; omega
  rw [this]
  rcases Nat.le_total c.toNat s.length with q | q
  · rw [Nat.min_eq_left q, List.take_of_length_le (by simp [lenS])]
  · rw [Nat.min_eq_right q, List.drop_of_length_le (Nat.le_refl _), List.drop_of_length_le q]; simp
def wtextF (old : List UInt8) (off : Nat) (data : List UInt8) : List UInt8 := fitF old off ++ data ++ old.drop (off + data.length)
def offF (x : Node) (off : Int) : Int := if appB x.mode = true then (x.data.length : Int) else off
def writeF (n : Int) (l : List Node) (s off : Int) (data uid : List UInt8) (now : Int) : (Int × List Node) × Int × Int :=
  if fileE l s ≠ 0 then ((n, l), 0, fileE l s) else if off < 0 then ((n, l), 0, 1) else if data = [] then ((n, l), 0, 0)
  else if 65536 < offF (nodeF l s) off + data.length then ((n, l), 0, 4)
  else ((n, withF l (touchF { nodeF l s with data := wtextF (nodeF l s).data (offF (nodeF l s) off).toNat data } uid now)), (data.length : Int), 0)
def writeCon : Con := fun vs bs K => match vs, bs with
  | [.agg [.int .i64 n, .lst xs], .int .i64 s, .int .i64 off, .str data, .str uid, .int .i64 now], [] => ∃ l, xs = nodeV l ∧ goodT n l ∧ off ≤ 9223372036854775807 ∧ data.length ≤ 1000000 ∧
      K (.tup [.agg [.int .i64 (writeF n l s off data uid now).1.1, .lst (nodeV (writeF n l s off data uid now).1.2)], .int .i64 (writeF n l s off data uid now).2.1, .int .i64 (writeF n l s off data uid now).2.2]) []
  | _, _ => False
theorem fit_len (s : List UInt8) (n : Nat) : (fitF s n).length = n := by
  simp [fitF]; omega
theorem fit_all (s : List UInt8) : fitF s s.length = s := by simp [fitF]
theorem data_le {n : Int} {l : List Node} (h : goodT n l) {k : Nat} {x : Node} (gx : l[k]? = some x) : x.data.length ≤ 65536 := (sound_iff.1 (h.2.2.2 k x gx).1).2.2.2.2.2.2.2.2.2.2.1
theorem wr_con {n : Nat} (hn : 5 ≤ n) : ConOk (evalF Try.prog cfgN n) 22 writeCon := by
  intro vs bs K h
  unfold writeCon at h
  split at h
  · rename_i nx xs s off data uid now
    obtain ⟨l, rfl, hg, ho, hd, hK⟩ := h
    have hb : l.length ≤ 100000 := by have := hg.2.1; omega
    refine run_of (lp := lpOf []) (by omega) (ct := ctOf [(44, fileCon), (47, cloneCon), (48, intCon appB), (49, fitCon), (50, changeCon)])
      (fun k hk => ctOf_ok (ctOf_cons (fl_con (by omega)) (ctOf_cons (cl_con (by omega)) (ctOf_cons (app_con (by omega)) (ctOf_cons (ft_con (by omega)) (ctOf_cons (cg_con (by omega)) (ctOf_nil _))))))) ?_
    rw [wr_vc]
    have e : ∀ {n' : Int} {l' : List Node} {i e : Int}, ((n', l'), i, e) = writeF nx l s off data uid now → K (.tup [.agg [.int .i64 n', .lst (nodeV l')], .int .i64 i, .int .i64 e]) [] := fun q => by rw [← q] at hK; exact hK
    unfold writeF at e
    simp only [nodeV_lenL]
    refine ⟨l, rfl, hb, mode_le hg s, br_iff.2 ⟨fun g => ⟨l, rfl, hb, ?_⟩, fun g1 => br_iff.2 ⟨fun g => ⟨l, rfl, hb, ?_⟩, fun g2 => br_iff.2 ⟨fun g => ⟨l, rfl, hb, ?_⟩, fun g3 => ?_⟩⟩⟩⟩
    · simp only [br_iff, need_iff, andB_t, andB_f, orB_t, orB_f, notB_t, notB_f, leI_t, leI_f, ltI_t, ltI_f, eqI_t, eqI_f, leN_t, leN_f, eqN_t, eqN_f, eqS_t, eqS_f, eqB_t, eqB_f, catOk_t, leC_t] at g
      rw [take_all]; exact e (by rw [if_pos g])
    · simp only [br_iff, need_iff, andB_t, andB_f, orB_t, orB_f, notB_t, notB_f, leI_t, leI_f, ltI_t, ltI_f, eqI_t, eqI_f, leN_t, leN_f, eqN_t, eqN_f, eqS_t, eqS_f, eqB_t, eqB_f, catOk_t, leC_t] at g1 g
      rw [take_all]; exact e (by rw [if_neg (by simp [g1]), if_pos g])
    · simp only [br_iff, need_iff, andB_t, andB_f, orB_t, orB_f, notB_t, notB_f, leI_t, leI_f, ltI_t, ltI_f, eqI_t, eqI_f, leN_t, leN_f, eqN_t, eqN_f, eqS_t, eqS_f, eqB_t, eqB_f, catOk_t, leC_t] at g1 g2 g
      rw [take_all]; exact e (by rw [if_neg (by simp [g1]), if_neg (by omega), if_pos g])
    · simp only [br_iff, need_iff, andB_t, andB_f, orB_t, orB_f, notB_t, notB_f, leI_t, leI_f, ltI_t, ltI_f, eqI_t, eqI_f, leN_t, leN_f, eqN_t, eqN_f, eqS_t, eqS_f, eqB_t, eqB_f, catOk_t, leC_t] at g1 g2 g3
      rw [if_neg (by simp [g1]), if_neg (by omega), if_neg g3] at e
      obtain ⟨k, x, gx, _, en, _, ei, hlt, _⟩ := file_at g1
      have hdl := data_le hg gx
      have hv := sound_iff.1 (hg.2.2.2 k x gx).1
      rw [en] at e
      rw [ei]
      have gq : l[k]? = some l[k] := List.getElem?_eq_getElem hlt
      generalize l[k] = q at gq
      have rq := nodeV_row gq
      have kq : okRow (nodeV l) (Int.toNat (k : Int)) 11 = true := by simpa using nodeV_ok (l := l) (i := k) hlt
      have nq : andB (leI 0 (k : Int)) (ltI (k : Int) (l.length : Int)) = true := by simp only [br_iff, need_iff, andB_t, andB_f, orB_t, orB_f, notB_t, notB_f, leI_t, leI_f, ltI_t, ltI_f, eqI_t, eqI_f, leN_t, leN_f, eqN_t, eqN_f, eqS_t, eqS_f, eqB_t, eqB_f, catOk_t, leC_t]; omega
      obtain rfl := Option.some.inj (gx.symm.trans gq)
      rw [need_iff, need_iff]
      refine ⟨nq, kq, ?_⟩
      try rw [rq]
      repeat apply Exists.intro
      refine ⟨rfl, ?_⟩
      rw [need_iff, need_iff]
      refine ⟨nq, kq, ?_⟩
      try rw [rq]
      repeat apply Exists.intro
      refine ⟨rfl, ?_⟩
      have g4 : ∀ y : Node, (l.set k y)[k]? = some y := fun y => by rw [List.getElem?_set_self hlt]
      -- too long
      have long : 65536 < offF x off + data.length → wr_vc_2 nx (nodeV l) s off data uid now K := fun q => ⟨l, rfl, hb, by rw [take_all]; exact e (by rw [if_pos q])⟩
      -- written
      have done : ∀ o : Int, o = offF x off → 0 ≤ o → o + data.length ≤ 65536 → ∀ u : List UInt8, u = wtextF x.data o.toNat data → wr_vc_1 nx (nodeV l) s off data uid now K (nodeV (l.set k { x with data := u })) l l := by
        intro o h1 h2 h3 u h4
        refine ⟨l.set k { x with data := u }, k, { x with data := u }, rfl, by simp, by simpa using hb, ei, g4 _, ⟨hv.2.1, hv.2.2.1⟩, ?_⟩
        rw [List.set_set, List.drop_zero, List.take_of_length_le (by simp [nodeV_len])]
        refine e ?_
        rw [if_neg (by omega)]
        show ((nx, l.set k (touchF { x with data := u } uid now)), (data.length : Int), (0 : Int)) = ((nx, withF l (touchF { x with data := wtextF x.data (offF x off).toNat data } uid now)), (data.length : Int), 0)
        rw [with_set hg gx (y := touchF { x with data := wtextF x.data (offF x off).toNat data } uid now) rfl, h4, h1]
      have put : ∀ u : List UInt8, putAt (nodeV l) k 10 [.str u] = some (nodeV (l.set k { x with data := u })) := fun u => nodeV_put gx rfl
      have hvm := valid_le hv.1
      refine ⟨by omega, br_iff.2 ⟨fun a => ?_, fun a => ?_⟩⟩
      · have ho2 : offF x off = (x.data.length : Int) := by unfold offF; rw [if_pos a]
        refine br_iff.2 ⟨fun g => long (by simp only [br_iff, need_iff, andB_t, andB_f, orB_t, orB_f, notB_t, notB_f, leI_t, leI_f, ltI_t, ltI_f, eqI_t, eqI_f, leN_t, leN_f, eqN_t, eqN_f, eqS_t, eqS_f, eqB_t, eqB_f, catOk_t, leC_t, lenS] at g; omega), fun g5 => br_iff.2 ⟨fun g => long ?_, fun g6 => ?_⟩⟩
        · rw [subI_i64 (by simp only [lenS]; omega) (by simp only [lenS]; omega)] at g
          simp only [br_iff, need_iff, andB_t, andB_f, orB_t, orB_f, notB_t, notB_f, leI_t, leI_f, ltI_t, ltI_f, eqI_t, eqI_f, leN_t, leN_f, eqN_t, eqN_f, eqS_t, eqS_f, eqB_t, eqB_f, catOk_t, leC_t, lenS] at g; omega
        · rw [subI_i64 (by simp only [lenS]; omega) (by simp only [lenS]; omega)] at g6
          simp only [br_iff, need_iff, andB_t, andB_f, orB_t, orB_f, notB_t, notB_f, leI_t, leI_f, ltI_t, ltI_f, eqI_t, eqI_f, leN_t, leN_f, eqN_t, eqN_f, eqS_t, eqS_f, eqB_t, eqB_f, catOk_t, leC_t, lenS] at g5 g6
          rw [addI_i64 (by simp only [lenS]; omega) (by simp only [lenS]; omega), cut_tail _ (by simp only [lenS]; omega)]
          simp only [Int.toNat_natCast, Nat.zero_add]
          refine ⟨l, rfl, hb, by simp [lenS], by simp only [lenS]; omega, by omega, need_iff.2 ⟨by rw [catOk_t, fit_len]; simp only [lenS]; omega, need_iff.2 ⟨by simp only [br_iff, need_iff, andB_t, andB_f, orB_t, orB_f, notB_t, notB_f, leI_t, leI_f, ltI_t, ltI_f, eqI_t, eqI_f, leN_t, leN_f, eqN_t, eqN_f, eqS_t, eqS_f, eqB_t, eqB_f, catOk_t, leC_t, minI, lenS]; omega, need_iff.2 ⟨?_, need_iff.2 ⟨by simp only [br_iff, need_iff, andB_t, andB_f, orB_t, orB_f, notB_t, notB_f, leI_t, leI_f, ltI_t, ltI_f, eqI_t, eqI_f, leN_t, leN_f, eqN_t, eqN_f, eqS_t, eqS_f, eqB_t, eqB_f, catOk_t, leC_t, Int.ofNat_eq_natCast]; omega, need_iff.2 ⟨nodeV_ok hlt, _, put _, done (x.data.length : Int) ho2.symm (by omega) (by omega) _ ?_⟩⟩⟩⟩⟩⟩
          · rw [catOk_t]; simp only [catS, List.length_append, fit_len, List.length_drop, lenS]; omega
          · unfold wtextF catS
            congr 2
      · have ho2 : offF x off = off := by unfold offF; rw [if_neg (by simp [a])]
        refine br_iff.2 ⟨fun g => long (by simp only [br_iff, need_iff, andB_t, andB_f, orB_t, orB_f, notB_t, notB_f, leI_t, leI_f, ltI_t, ltI_f, eqI_t, eqI_f, leN_t, leN_f, eqN_t, eqN_f, eqS_t, eqS_f, eqB_t, eqB_f, catOk_t, leC_t, lenS] at g; omega), fun g5 => br_iff.2 ⟨fun g => long ?_, fun g6 => ?_⟩⟩
        · simp only [br_iff, need_iff, andB_t, andB_f, orB_t, orB_f, notB_t, notB_f, leI_t, leI_f, ltI_t, ltI_f, eqI_t, eqI_f, leN_t, leN_f, eqN_t, eqN_f, eqS_t, eqS_f, eqB_t, eqB_f, catOk_t, leC_t] at g5
          rw [subI_i64 (by omega) (by omega)] at g
          simp only [br_iff, need_iff, andB_t, andB_f, orB_t, orB_f, notB_t, notB_f, leI_t, leI_f, ltI_t, ltI_f, eqI_t, eqI_f, leN_t, leN_f, eqN_t, eqN_f, eqS_t, eqS_f, eqB_t, eqB_f, catOk_t, leC_t, lenS] at g; omega
        · simp only [br_iff, need_iff, andB_t, andB_f, orB_t, orB_f, notB_t, notB_f, leI_t, leI_f, ltI_t, ltI_f, eqI_t, eqI_f, leN_t, leN_f, eqN_t, eqN_f, eqS_t, eqS_f, eqB_t, eqB_f, catOk_t, leC_t] at g5
          rw [subI_i64 (by omega) (by omega)] at g6
          simp only [br_iff, need_iff, andB_t, andB_f, orB_t, orB_f, notB_t, notB_f, leI_t, leI_f, ltI_t, ltI_f, eqI_t, eqI_f, leN_t, leN_f, eqN_t, eqN_f, eqS_t, eqS_f, eqB_t, eqB_f, catOk_t, leC_t, lenS] at g6
          rw [addI_i64 (by simp only [lenS]; omega) (by simp only [lenS]; omega), cut_tail _ (by simp only [lenS]; omega)]
          simp only [Int.toNat_natCast, Nat.zero_add]
          refine ⟨l, rfl, hb, by omega, by omega, by omega, need_iff.2 ⟨by rw [catOk_t, fit_len]; omega, need_iff.2 ⟨by simp only [br_iff, need_iff, andB_t, andB_f, orB_t, orB_f, notB_t, notB_f, leI_t, leI_f, ltI_t, ltI_f, eqI_t, eqI_f, leN_t, leN_f, eqN_t, eqN_f, eqS_t, eqS_f, eqB_t, eqB_f, catOk_t, leC_t, minI, lenS]; omega, need_iff.2 ⟨?_, need_iff.2 ⟨by simp only [br_iff, need_iff, andB_t, andB_f, orB_t, orB_f, notB_t, notB_f, leI_t, leI_f, ltI_t, ltI_f, eqI_t, eqI_f, leN_t, leN_f, eqN_t, eqN_f, eqS_t, eqS_f, eqB_t, eqB_f, catOk_t, leC_t, Int.ofNat_eq_natCast]; omega, need_iff.2 ⟨nodeV_ok hlt, _, put _, done off ho2.symm (by omega) (by omega) _ ?_⟩⟩⟩⟩⟩⟩
          · rw [catOk_t]; simp only [catS, List.length_append, fit_len, List.length_drop, lenS]; omega
          · unfold wtextF catS
            have : (off + lenS data).toNat = off.toNat + data.length := by simp only [lenS]; omega
            rw [this]
  · exact h.elim
theorem rwr_con {n : Nat} (hn : 4 ≤ n) : ConOk (evalF Try.prog cfgN n) 60 writeCon := by
  intro vs bs K h
  unfold writeCon at h
  split at h
  · rename_i nx xs s off data uid now
    obtain ⟨l, rfl, hg, ho, hd, hK⟩ := h
    have hb : l.length ≤ 100000 := by have := hg.2.1; omega
    refine run_of (lp := lpOf []) (by omega) (ct := ctOf [(45, rfileCon), (71, zerosCon), (73, touchCon), (72, withCon)])
      (fun k hk => ctOf_ok (ctOf_cons (rfl_con (by omega)) (ctOf_cons (ze_con (by omega)) (ctOf_cons (to_con (by omega)) (ctOf_cons (wt_con (by omega)) (ctOf_nil _)))))) ?_
    rw [rwr_vc]
    have e : ∀ {n' : Int} {l' : List Node} {i e : Int}, ((n', l'), i, e) = writeF nx l s off data uid now → K (.tup [.agg [.int .i64 n', .lst (nodeV l')], .int .i64 i, .int .i64 e]) [] := fun q => by rw [← q] at hK; exact hK
    unfold writeF at e
    refine ⟨l, rfl, hg, br_iff.2 ⟨fun g => e ?_, fun g1 => br_iff.2 ⟨fun g => e ?_, fun g2 => br_iff.2 ⟨fun g => e ?_, fun g3 => ?_⟩⟩⟩⟩
    · simp only [br_iff, need_iff, andB_t, andB_f, orB_t, orB_f, notB_t, notB_f, leI_t, leI_f, ltI_t, ltI_f, eqI_t, eqI_f, leN_t, leN_f, eqN_t, eqN_f, eqS_t, eqS_f, eqB_t, eqB_f, catOk_t, leC_t] at g
      rw [if_pos g]
    · simp only [br_iff, need_iff, andB_t, andB_f, orB_t, orB_f, notB_t, notB_f, leI_t, leI_f, ltI_t, ltI_f, eqI_t, eqI_f, leN_t, leN_f, eqN_t, eqN_f, eqS_t, eqS_f, eqB_t, eqB_f, catOk_t, leC_t] at g1 g
      rw [if_neg (by simp [g1]), if_pos g]
    · simp only [br_iff, need_iff, andB_t, andB_f, orB_t, orB_f, notB_t, notB_f, leI_t, leI_f, ltI_t, ltI_f, eqI_t, eqI_f, leN_t, leN_f, eqN_t, eqN_f, eqS_t, eqS_f, eqB_t, eqB_f, catOk_t, leC_t] at g1 g2 g
      rw [if_neg (by simp [g1]), if_neg (by omega), if_pos g]
    · simp only [br_iff, need_iff, andB_t, andB_f, orB_t, orB_f, notB_t, notB_f, leI_t, leI_f, ltI_t, ltI_f, eqI_t, eqI_f, leN_t, leN_f, eqN_t, eqN_f, eqS_t, eqS_f, eqB_t, eqB_f, catOk_t, leC_t] at g1 g2 g3
      rw [if_neg (by simp [g1]), if_neg (by omega), if_neg g3] at e
      obtain ⟨k, x, gx, _, en, _, ei, hlt, _⟩ := file_at g1
      have hdl := data_le hg gx
      have hv := sound_iff.1 (hg.2.2.2 k x gx).1
      have hvm := valid_le hv.1
      rw [en] at e ⊢
      have done : ∀ o : Int, o = offF x off → 0 ≤ o → o + data.length ≤ 65536 → ∀ u : List UInt8, u = wtextF x.data o.toNat data → rwr_vc_1 nx (nodeV l) s off data uid now K { x with data := u } := by
        intro o h1 h2 h3 u h4
        refine ⟨⟨hv.2.1, hv.2.2.1⟩, l, _, rfl, rfl, hb, ?_⟩
        rw [List.drop_zero, List.take_of_length_le (by rw [nodeV_len, with_len]; omega)]
        refine e ?_
        rw [if_neg (by omega), h4, h1]
        rfl
      have text : ∀ o : Int, 0 ≤ o → ∀ p : Nat, p = (o - x.data.length).toNat → catS (catS (catS (x.data.take o.toNat) (List.replicate p 0)) data) (x.data.drop (o + data.length).toNat) = wtextF x.data o.toNat data := by
        intro o h1 p h2
        unfold catS wtextF fitF
        have e1 : (o + (data.length : Int)).toNat = o.toNat + data.length := by omega
        have e2 : p = o.toNat - x.data.length := by omega
        rw [e1, e2]
      have happ : eqI ((quoI .i64 x.mode 1073741824).tmod 2) 1 = appB x.mode := by
        rw [quoI_i64 hvm.1 (by omega) (by omega), tmod_pos (by omega)]
        simp [eqI, appB, hvm.1]
      rw [happ]
      refine br_iff.2 ⟨fun a => ?_, fun a => ?_⟩
      · have ho2 : offF x off = (x.data.length : Int) := by unfold offF; rw [if_pos a]
        refine br_iff.2 ⟨fun g => e ?_, fun g5 => br_iff.2 ⟨fun g => e ?_, fun g6 => ?_⟩⟩
        · simp only [br_iff, need_iff, andB_t, andB_f, orB_t, orB_f, notB_t, notB_f, leI_t, leI_f, ltI_t, ltI_f, eqI_t, eqI_f, leN_t, leN_f, eqN_t, eqN_f, eqS_t, eqS_f, eqB_t, eqB_f, catOk_t, leC_t, lenS] at g; rw [if_pos (by omega)]
        · rw [subI_i64 (by simp only [lenS]; omega) (by simp only [lenS]; omega)] at g
          simp only [br_iff, need_iff, andB_t, andB_f, orB_t, orB_f, notB_t, notB_f, leI_t, leI_f, ltI_t, ltI_f, eqI_t, eqI_f, leN_t, leN_f, eqN_t, eqN_f, eqS_t, eqS_f, eqB_t, eqB_f, catOk_t, leC_t, lenS] at g; rw [if_pos (by omega)]
        · rw [subI_i64 (by simp only [lenS]; omega) (by simp only [lenS]; omega)] at g6
          simp only [br_iff, need_iff, andB_t, andB_f, orB_t, orB_f, notB_t, notB_f, leI_t, leI_f, ltI_t, ltI_f, eqI_t, eqI_f, leN_t, leN_f, eqN_t, eqN_f, eqS_t, eqS_f, eqB_t, eqB_f, catOk_t, leC_t, lenS] at g5 g6
          rw [addI_i64 (by simp only [lenS]; omega) (by simp only [lenS]; omega), cut_tail _ (by simp only [lenS]; omega), cut_head _ (by simp only [lenS]; omega), subI_i64 (by simp only [lenS]; omega) (by simp only [lenS]; omega)]
          refine need_iff.2 ⟨by simp only [br_iff, need_iff, andB_t, andB_f, orB_t, orB_f, notB_t, notB_f, leI_t, leI_f, ltI_t, ltI_f, eqI_t, eqI_f, leN_t, leN_f, eqN_t, eqN_f, eqS_t, eqS_f, eqB_t, eqB_f, catOk_t, leC_t, minI, lenS]; omega, need_iff.2 ⟨by simp only [br_iff, need_iff, andB_t, andB_f, orB_t, orB_f, notB_t, notB_f, leI_t, leI_f, ltI_t, ltI_f, eqI_t, eqI_f, leN_t, leN_f, eqN_t, eqN_f, eqS_t, eqS_f, eqB_t, eqB_f, catOk_t, leC_t, minI, lenS]; omega, by omega, need_iff.2 ⟨?_, need_iff.2 ⟨?_, need_iff.2 ⟨?_, { x with data := catS (catS (catS (x.data.take (lenS x.data).toNat) (List.replicate (lenS x.data - lenS x.data).toNat 0)) data) (x.data.drop (lenS x.data + lenS data).toNat) }, rfl, done (x.data.length : Int) ho2.symm (by omega) (by omega) _ (text (x.data.length : Int) (by omega) _ (by simp only [lenS]))⟩⟩⟩⟩⟩ <;>
            rw [catOk_t] <;> simp only [catS, List.length_append, List.length_take, List.length_replicate, List.length_drop, lenS] <;> omega
      · have ho2 : offF x off = off := by unfold offF; rw [if_neg (by simp [a])]
        refine br_iff.2 ⟨fun g => e ?_, fun g5 => br_iff.2 ⟨fun g => e ?_, fun g6 => ?_⟩⟩
        · simp only [br_iff, need_iff, andB_t, andB_f, orB_t, orB_f, notB_t, notB_f, leI_t, leI_f, ltI_t, ltI_f, eqI_t, eqI_f, leN_t, leN_f, eqN_t, eqN_f, eqS_t, eqS_f, eqB_t, eqB_f, catOk_t, leC_t, lenS] at g; rw [if_pos (by omega)]
        · rw [subI_i64 (by simp only [lenS]; omega) (by simp only [lenS]; omega)] at g
          simp only [br_iff, need_iff, andB_t, andB_f, orB_t, orB_f, notB_t, notB_f, leI_t, leI_f, ltI_t, ltI_f, eqI_t, eqI_f, leN_t, leN_f, eqN_t, eqN_f, eqS_t, eqS_f, eqB_t, eqB_f, catOk_t, leC_t, lenS] at g; rw [if_pos (by omega)]
        · rw [subI_i64 (by simp only [lenS]; omega) (by simp only [lenS]; omega)] at g6
          simp only [br_iff, need_iff, andB_t, andB_f, orB_t, orB_f, notB_t, notB_f, leI_t, leI_f, ltI_t, ltI_f, eqI_t, eqI_f, leN_t, leN_f, eqN_t, eqN_f, eqS_t, eqS_f, eqB_t, eqB_f, catOk_t, leC_t, lenS] at g5 g6
          rw [addI_i64 (by simp only [lenS]; omega) (by simp only [lenS]; omega), cut_tail _ (by simp only [lenS]; omega), cut_head _ (by omega), subI_i64 (by simp only [lenS]; omega) (by simp only [lenS]; omega)]
          refine need_iff.2 ⟨by simp only [br_iff, need_iff, andB_t, andB_f, orB_t, orB_f, notB_t, notB_f, leI_t, leI_f, ltI_t, ltI_f, eqI_t, eqI_f, leN_t, leN_f, eqN_t, eqN_f, eqS_t, eqS_f, eqB_t, eqB_f, catOk_t, leC_t, minI, lenS]; omega, need_iff.2 ⟨by simp only [br_iff, need_iff, andB_t, andB_f, orB_t, orB_f, notB_t, notB_f, leI_t, leI_f, ltI_t, ltI_f, eqI_t, eqI_f, leN_t, leN_f, eqN_t, eqN_f, eqS_t, eqS_f, eqB_t, eqB_f, catOk_t, leC_t, minI, lenS]; omega, by simp only [lenS]; omega, need_iff.2 ⟨?_, need_iff.2 ⟨?_, need_iff.2 ⟨?_, { x with data := catS (catS (catS (x.data.take off.toNat) (List.replicate (off - lenS x.data).toNat 0)) data) (x.data.drop (off + lenS data).toNat) }, rfl, done off ho2.symm (by omega) (by omega) _ (text _ (by omega) _ (by simp only [lenS]))⟩⟩⟩⟩⟩ <;>
            rw [catOk_t] <;> simp only [catS, List.length_append, List.length_take, List.length_replicate, List.length_drop, lenS] <;> omega
  · exact h.elim
-- Resize
def resizeF (n : Int) (l : List Node) (s len : Int) (uid : List UInt8) (now : Int) : (Int × List Node) × Int :=
  if fileE l s ≠ 0 then ((n, l), fileE l s) else if len < 0 then ((n, l), 1) else if 65536 < len then ((n, l), 4) else if len = ((nodeF l s).data.length : Int) then ((n, l), 0)
  else ((n, withF l (touchF { nodeF l s with data := fitF (nodeF l s).data len.toNat } uid now)), 0)
def resizeCon : Con := fun vs bs K => match vs, bs with
  | [.agg [.int .i64 n, .lst xs], .int .i64 s, .int .i64 len, .str uid, .int .i64 now], [] => ∃ l, xs = nodeV l ∧ goodT n l ∧ K (.tup [.agg [.int .i64 (resizeF n l s len uid now).1.1, .lst (nodeV (resizeF n l s len uid now).1.2)], .int .i64 (resizeF n l s len uid now).2]) []
  | _, _ => False
theorem rs_con {n : Nat} (hn : 5 ≤ n) : ConOk (evalF Try.prog cfgN n) 55 resizeCon := by
  intro vs bs K h
  unfold resizeCon at h
  split at h
  · rename_i nx xs s len uid now
    obtain ⟨l, rfl, hg, hK⟩ := h
    have hb : l.length ≤ 100000 := by have := hg.2.1; omega
    refine run_of (lp := lpOf []) (by omega) (ct := ctOf [(44, fileCon), (47, cloneCon), (49, fitCon), (50, changeCon)])
      (fun k hk => ctOf_ok (ctOf_cons (fl_con (by omega)) (ctOf_cons (cl_con (by omega)) (ctOf_cons (ft_con (by omega)) (ctOf_cons (cg_con (by omega)) (ctOf_nil _)))))) ?_
    rw [rs_vc]
    have e : ∀ {n' : Int} {l' : List Node} {e : Int}, ((n', l'), e) = resizeF nx l s len uid now → K (.tup [.agg [.int .i64 n', .lst (nodeV l')], .int .i64 e]) [] := fun q => by rw [← q] at hK; exact hK
    unfold resizeF at e
    simp only [nodeV_lenL]
    refine ⟨l, rfl, hb, mode_le hg s, br_iff.2 ⟨fun g => ⟨l, rfl, hb, ?_⟩, fun g1 => br_iff.2 ⟨fun g => ⟨l, rfl, hb, ?_⟩, fun g2 => br_iff.2 ⟨fun g => ⟨l, rfl, hb, ?_⟩, fun g3 => ?_⟩⟩⟩⟩
    · simp only [br_iff, need_iff, andB_t, andB_f, orB_t, orB_f, notB_t, notB_f, leI_t, leI_f, ltI_t, ltI_f, eqI_t, eqI_f, leN_t, leN_f, eqN_t, eqN_f, eqS_t, eqS_f, eqB_t, eqB_f, catOk_t, leC_t] at g
      rw [take_all]; exact e (by rw [if_pos g])
    · simp only [br_iff, need_iff, andB_t, andB_f, orB_t, orB_f, notB_t, notB_f, leI_t, leI_f, ltI_t, ltI_f, eqI_t, eqI_f, leN_t, leN_f, eqN_t, eqN_f, eqS_t, eqS_f, eqB_t, eqB_f, catOk_t, leC_t] at g1 g
      rw [take_all]; exact e (by rw [if_neg (by simp [g1]), if_pos g])
    · simp only [br_iff, need_iff, andB_t, andB_f, orB_t, orB_f, notB_t, notB_f, leI_t, leI_f, ltI_t, ltI_f, eqI_t, eqI_f, leN_t, leN_f, eqN_t, eqN_f, eqS_t, eqS_f, eqB_t, eqB_f, catOk_t, leC_t] at g1 g2 g
      rw [take_all]; exact e (by rw [if_neg (by simp [g1]), if_neg (by omega), if_pos g])
    · simp only [br_iff, need_iff, andB_t, andB_f, orB_t, orB_f, notB_t, notB_f, leI_t, leI_f, ltI_t, ltI_f, eqI_t, eqI_f, leN_t, leN_f, eqN_t, eqN_f, eqS_t, eqS_f, eqB_t, eqB_f, catOk_t, leC_t] at g1 g2 g3
      rw [if_neg (by simp [g1]), if_neg (by omega), if_neg (by omega)] at e
      obtain ⟨k, x, gx, _, en, _, ei, hlt, _⟩ := file_at g1
      have hdl := data_le hg gx
      have hv := sound_iff.1 (hg.2.2.2 k x gx).1
      rw [en] at e
      rw [ei]
      have gq : l[k]? = some l[k] := List.getElem?_eq_getElem hlt
      generalize l[k] = q at gq
      have rq := nodeV_row gq
      have kq : okRow (nodeV l) (Int.toNat (k : Int)) 11 = true := by simpa using nodeV_ok (l := l) (i := k) hlt
      have nq : andB (leI 0 (k : Int)) (ltI (k : Int) (l.length : Int)) = true := by simp only [br_iff, need_iff, andB_t, andB_f, orB_t, orB_f, notB_t, notB_f, leI_t, leI_f, ltI_t, ltI_f, eqI_t, eqI_f, leN_t, leN_f, eqN_t, eqN_f, eqS_t, eqS_f, eqB_t, eqB_f, catOk_t, leC_t]; omega
      obtain rfl := Option.some.inj (gx.symm.trans gq)
      rw [need_iff, need_iff]
      refine ⟨nq, kq, ?_⟩
      try rw [rq]
      repeat apply Exists.intro
      refine ⟨rfl, ?_⟩
      have g4 : ∀ y : Node, (l.set k y)[k]? = some y := fun y => by rw [List.getElem?_set_self hlt]
      refine br_iff.2 ⟨fun g => ⟨l, rfl, hb, ?_⟩, fun g5 => ⟨l, rfl, hb, ?_⟩⟩
      · simp only [br_iff, need_iff, andB_t, andB_f, orB_t, orB_f, notB_t, notB_f, leI_t, leI_f, ltI_t, ltI_f, eqI_t, eqI_f, leN_t, leN_f, eqN_t, eqN_f, eqS_t, eqS_f, eqB_t, eqB_f, catOk_t, leC_t, lenS] at g
        rw [take_all]; exact e (by rw [if_pos g])
      · simp only [br_iff, need_iff, andB_t, andB_f, orB_t, orB_f, notB_t, notB_f, leI_t, leI_f, ltI_t, ltI_f, eqI_t, eqI_f, leN_t, leN_f, eqN_t, eqN_f, eqS_t, eqS_f, eqB_t, eqB_f, catOk_t, leC_t, lenS] at g5
        simp only [Int.toNat_natCast, Nat.zero_add]
        refine need_iff.2 ⟨by simp only [br_iff, need_iff, andB_t, andB_f, orB_t, orB_f, notB_t, notB_f, leI_t, leI_f, ltI_t, ltI_f, eqI_t, eqI_f, leN_t, leN_f, eqN_t, eqN_f, eqS_t, eqS_f, eqB_t, eqB_f, catOk_t, leC_t, Int.ofNat_eq_natCast]; omega, need_iff.2 ⟨nodeV_ok hlt, x.data, by rw [nodeV_part gx]; rfl, by omega, by omega, by omega, need_iff.2 ⟨by simp only [br_iff, need_iff, andB_t, andB_f, orB_t, orB_f, notB_t, notB_f, leI_t, leI_f, ltI_t, ltI_f, eqI_t, eqI_f, leN_t, leN_f, eqN_t, eqN_f, eqS_t, eqS_f, eqB_t, eqB_f, catOk_t, leC_t, Int.ofNat_eq_natCast]; omega, need_iff.2 ⟨nodeV_ok hlt, _, nodeV_put (g := { x with data := fitF x.data len.toNat }) gx rfl, _, k, _, rfl, by simp, by simpa using hb, rfl, g4 _, ⟨hv.2.1, hv.2.2.1⟩, ?_⟩⟩⟩⟩
        rw [List.set_set, List.drop_zero, List.take_of_length_le (by simp [nodeV_len])]
        refine e ?_
        rw [if_neg g5]
        show ((nx, l.set k (touchF { x with data := fitF x.data len.toNat } uid now)), (0 : Int)) = ((nx, withF l (touchF { x with data := fitF x.data len.toNat } uid now)), 0)
        rw [with_set hg gx (y := touchF { x with data := fitF x.data len.toNat } uid now) rfl]
  · exact h.elim
theorem rrs_con {n : Nat} (hn : 4 ≤ n) : ConOk (evalF Try.prog cfgN n) 61 resizeCon := by
  intro vs bs K h
  unfold resizeCon at h
  split at h
  · rename_i nx xs s len uid now
    obtain ⟨l, rfl, hg, hK⟩ := h
    have hb : l.length ≤ 100000 := by have := hg.2.1; omega
    refine run_of (lp := lpOf []) (by omega) (ct := ctOf [(45, rfileCon), (71, zerosCon), (73, touchCon), (72, withCon)])
      (fun k hk => ctOf_ok (ctOf_cons (rfl_con (by omega)) (ctOf_cons (ze_con (by omega)) (ctOf_cons (to_con (by omega)) (ctOf_cons (wt_con (by omega)) (ctOf_nil _)))))) ?_
    rw [rrs_vc]
    have e : ∀ {n' : Int} {l' : List Node} {e : Int}, ((n', l'), e) = resizeF nx l s len uid now → K (.tup [.agg [.int .i64 n', .lst (nodeV l')], .int .i64 e]) [] := fun q => by rw [← q] at hK; exact hK
    unfold resizeF at e
    refine ⟨l, rfl, hg, br_iff.2 ⟨fun g => e ?_, fun g1 => br_iff.2 ⟨fun g => e ?_, fun g2 => br_iff.2 ⟨fun g => e ?_, fun g3 => br_iff.2 ⟨fun g => e ?_, fun g4 => ?_⟩⟩⟩⟩⟩
    · simp only [br_iff, need_iff, andB_t, andB_f, orB_t, orB_f, notB_t, notB_f, leI_t, leI_f, ltI_t, ltI_f, eqI_t, eqI_f, leN_t, leN_f, eqN_t, eqN_f, eqS_t, eqS_f, eqB_t, eqB_f, catOk_t, leC_t] at g
      rw [if_pos g]
    · simp only [br_iff, need_iff, andB_t, andB_f, orB_t, orB_f, notB_t, notB_f, leI_t, leI_f, ltI_t, ltI_f, eqI_t, eqI_f, leN_t, leN_f, eqN_t, eqN_f, eqS_t, eqS_f, eqB_t, eqB_f, catOk_t, leC_t] at g1 g
      rw [if_neg (by simp [g1]), if_pos g]
    · simp only [br_iff, need_iff, andB_t, andB_f, orB_t, orB_f, notB_t, notB_f, leI_t, leI_f, ltI_t, ltI_f, eqI_t, eqI_f, leN_t, leN_f, eqN_t, eqN_f, eqS_t, eqS_f, eqB_t, eqB_f, catOk_t, leC_t] at g1 g2 g
      rw [if_neg (by simp [g1]), if_neg (by omega), if_pos g]
    · simp only [br_iff, need_iff, andB_t, andB_f, orB_t, orB_f, notB_t, notB_f, leI_t, leI_f, ltI_t, ltI_f, eqI_t, eqI_f, leN_t, leN_f, eqN_t, eqN_f, eqS_t, eqS_f, eqB_t, eqB_f, catOk_t, leC_t, lenS] at g1 g2 g3 g
      rw [if_neg (by simp [g1]), if_neg (by omega), if_neg (by omega), if_pos g]
    · simp only [br_iff, need_iff, andB_t, andB_f, orB_t, orB_f, notB_t, notB_f, leI_t, leI_f, ltI_t, ltI_f, eqI_t, eqI_f, leN_t, leN_f, eqN_t, eqN_f, eqS_t, eqS_f, eqB_t, eqB_f, catOk_t, leC_t, lenS] at g1 g2 g3 g4
      rw [if_neg (by simp [g1]), if_neg (by omega), if_neg (by omega), if_neg g4] at e
      obtain ⟨k, x, gx, _, en, _, ei, hlt, _⟩ := file_at g1
      have hdl := data_le hg gx
      have hv := sound_iff.1 (hg.2.2.2 k x gx).1
      rw [en] at e ⊢
      have e2 : catS (x.data.take len.toNat) (List.replicate (len - lenS x.data).toNat 0) = fitF x.data len.toNat := by
        unfold catS fitF
        have : (len - lenS x.data).toNat = len.toNat - x.data.length := by simp only [lenS]; omega
        rw [this]
      rw [cut_head _ (by omega), subI_i64 (by simp only [lenS]; omega) (by simp only [lenS]; omega), e2]
      refine need_iff.2 ⟨by simp only [br_iff, need_iff, andB_t, andB_f, orB_t, orB_f, notB_t, notB_f, leI_t, leI_f, ltI_t, ltI_f, eqI_t, eqI_f, leN_t, leN_f, eqN_t, eqN_f, eqS_t, eqS_f, eqB_t, eqB_f, catOk_t, leC_t, minI, lenS]; omega, by simp only [lenS]; omega, need_iff.2 ⟨?_, { x with data := fitF x.data len.toNat }, rfl, ⟨hv.2.1, hv.2.2.1⟩, l, _, rfl, rfl, hb, ?_⟩⟩
      · rw [catOk_t]; simp only [List.length_take, List.length_replicate, lenS]; omega
      · rw [List.drop_zero, List.take_of_length_le (by rw [nodeV_len, with_len]; omega)]
        exact e rfl
  · exact h.elim
end Go.Proofs.Ytepehbbagbfmcaa
