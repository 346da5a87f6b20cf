/- Windows: the reference's functions, by contracts. -/
import Derived.Test.YtdbbpibfejchfaaGreatDoorWizCond
import Derived.Test.YtdbbpibfejchfaaGreatDoorWinLaw
import Derived.Test.YtdbbpibfejchfaaGreatDoorWinEdit
import Derived.Test.YtdbbpibfejchfaaGreatDoorWinBase
namespace Go.Proofs.YtdbbpibfejchfaaGreatDoor
open Go.RowKit
set_option maxRecDepth 100000
set_option linter.unusedVariables false
set_option linter.unusedSimpArgs false
theorem rrd_con {n : Nat} (hn : 1 ≤ n) : ConOk (evalF Tryz.prog cfgN n) 57 readCon := by
  intro vs bs K h
  unfold readCon at h
  split at h
  · rename_i r t xs c
    obtain ⟨l, rfl, hR, hK⟩ := h
    obtain ⟨a1, a2, a3, a4, a5⟩ := (rightL_iff _).1 hR
    dsimp only at a1 a2 a3 a4 a5
    refine run_of (lp := lpOf []) (by omega) (fun k hk => noCt_ok _) ?_
    rw [rrd_vc]
    rcases l with _ | ⟨f, l⟩
    · rw [br_iff]; exact ⟨fun _ => hK, fun g => by simp [eqI, lenL, strV] at g⟩
    have ec : cutL (strV (f :: l)) 1 ((l.length + 1 : Nat) : Int) = strV l := by
      show List.take (l.length + 1 - 1) (strV l) = strV l
      rw [Nat.add_sub_cancel]; exact strV_all l
    simp only [strV_lenL, List.length_cons, ec, strV_len]
    rw [List.length_cons] at a3
    rw [br_iff]
    refine ⟨fun g => by simp only [br_iff, need_iff, andB_t, andB_f, orB_t, orB_f, notB_t, notB_f, leI_t, leI_f, ltI_t, ltI_f, eqI_t, eqI_f, leN_t, leN_f, eqN_t, eqN_f, eqS_t, eqS_f, eqB_t, eqB_f, catOk_t, leC_t, List.length_cons, Int.ofNat_eq_natCast] at g; omega, fun _ => ?_⟩
    obtain ⟨h1, h2⟩ := readN_le c f
    rw [readF_cons] at hK
    rw [need_iff]; refine ⟨by simp only [andB_tt, br_iff, need_iff, andB_t, andB_f, orB_t, orB_f, notB_t, notB_f, leI_t, leI_f, ltI_t, ltI_f, eqI_t, eqI_f, leN_t, leN_f, eqN_t, eqN_f, eqS_t, eqS_f, eqB_t, eqB_f, catOk_t, leC_t]; omega, ?_⟩
    rw [need_iff]; refine ⟨rfl, f, rfl, ?_⟩
    rw [h2]
    have e1 : cutS f 0 (readN c f : Int) = f.take (readN c f) := by simp [cutS]
    have e2 : cutS f (readN c f : Int) (lenS f) = f.drop (readN c f) := by
      simp only [cutS, lenS, Int.toNat_natCast]
      exact List.take_of_length_le (by simp)
    rw [e1, e2]
    rw [br_iff]
    refine ⟨fun g => ?_, fun g => ?_⟩
    · have g : ¬ readN c f = f.length := by simp only [br_iff, need_iff, andB_t, andB_f, orB_t, orB_f, notB_t, notB_f, leI_t, leI_f, ltI_t, ltI_f, eqI_t, eqI_f, leN_t, leN_f, eqN_t, eqN_f, eqS_t, eqS_f, eqB_t, eqB_f, catOk_t, leC_t, lenS] at g; omega
      rw [if_neg g] at hK
      have hK' : K (.tup [.agg [.bool r, .str t, .lst (strV (f.drop (readN c f) :: l))], .str (f.take (readN c f)), .bool false]) [] := hK
      rw [need_iff]; refine ⟨by simp only [br_iff, need_iff, andB_t, andB_f, orB_t, orB_f, notB_t, notB_f, leI_t, leI_f, ltI_t, ltI_f, eqI_t, eqI_f, leN_t, leN_f, eqN_t, eqN_f, eqS_t, eqS_f, eqB_t, eqB_f, catOk_t, leC_t, lenS]; omega, ?_⟩
      rw [need_iff]; refine ⟨strV_head _, ?_⟩
      rw [need_iff]; refine ⟨by simp only [andB_tt, br_iff, need_iff, andB_t, andB_f, orB_t, orB_f, notB_t, notB_f, leI_t, leI_f, ltI_t, ltI_f, eqI_t, eqI_f, leN_t, leN_f, eqN_t, eqN_f, eqS_t, eqS_f, eqB_t, eqB_f, catOk_t, leC_t]; omega, ?_⟩
      rw [need_iff]; refine ⟨strV_head _, ?_⟩
      rw [br_iff]
      refine ⟨fun q => ?_, fun q => ?_⟩
      · have q : l = [] := List.length_eq_zero_iff.1 (by simp only [br_iff, need_iff, andB_t, andB_f, orB_t, orB_f, notB_t, notB_f, leI_t, leI_f, ltI_t, ltI_f, eqI_t, eqI_f, leN_t, leN_f, eqN_t, eqN_f, eqS_t, eqS_f, eqB_t, eqB_f, catOk_t, leC_t] at q; omega)
        subst q
        rw [need_iff]; refine ⟨by simp only [br_iff, need_iff, andB_t, andB_f, orB_t, orB_f, notB_t, notB_f, leI_t, leI_f, ltI_t, ltI_f, eqI_t, eqI_f, leN_t, leN_f, eqN_t, eqN_f, eqS_t, eqS_f, eqB_t, eqB_f, catOk_t, leC_t, lenS]; omega, ?_⟩
        exact hK'
      · rw [need_iff]; refine ⟨by simp only [br_iff, need_iff, andB_t, andB_f, orB_t, orB_f, notB_t, notB_f, leI_t, leI_f, ltI_t, ltI_f, eqI_t, eqI_f, leN_t, leN_f, eqN_t, eqN_f, eqS_t, eqS_f, eqB_t, eqB_f, catOk_t, leC_t]; omega, ?_⟩
        rw [need_iff]; refine ⟨by simp only [br_iff, need_iff, andB_t, andB_f, orB_t, orB_f, notB_t, notB_f, leI_t, leI_f, ltI_t, ltI_f, eqI_t, eqI_f, leN_t, leN_f, eqN_t, eqN_f, eqS_t, eqS_f, eqB_t, eqB_f, catOk_t, leC_t, lenS]; omega, ?_⟩
        have e3 : List.take (1 + l.length) ([V.str (f.drop (readN c f))] :: strV l) = strV (f.drop (readN c f) :: l) := List.take_of_length_le (by simp [strV]; omega)
        rw [e3]
        exact hK'
    · have g : readN c f = f.length := by simp only [br_iff, need_iff, andB_t, andB_f, orB_t, orB_f, notB_t, notB_f, leI_t, leI_f, ltI_t, ltI_f, eqI_t, eqI_f, leN_t, leN_f, eqN_t, eqN_f, eqS_t, eqS_f, eqB_t, eqB_f, catOk_t, leC_t, lenS] at g; omega
      rw [if_pos g] at hK
      rw [need_iff]; refine ⟨strV_head _, ?_⟩
      rw [need_iff]; refine ⟨by simp only [andB_tt, br_iff, need_iff, andB_t, andB_f, orB_t, orB_f, notB_t, notB_f, leI_t, leI_f, ltI_t, ltI_f, eqI_t, eqI_f, leN_t, leN_f, eqN_t, eqN_f, eqS_t, eqS_f, eqB_t, eqB_f, catOk_t, leC_t]; omega, ?_⟩
      rw [need_iff]; refine ⟨strV_head _, ?_⟩
      rw [need_iff]; refine ⟨by simp only [br_iff, need_iff, andB_t, andB_f, orB_t, orB_f, notB_t, notB_f, leI_t, leI_f, ltI_t, ltI_f, eqI_t, eqI_f, leN_t, leN_f, eqN_t, eqN_f, eqS_t, eqS_f, eqB_t, eqB_f, catOk_t, leC_t]; omega, ?_⟩
      rw [need_iff]; refine ⟨by simp only [br_iff, need_iff, andB_t, andB_f, orB_t, orB_f, notB_t, notB_f, leI_t, leI_f, ltI_t, ltI_f, eqI_t, eqI_f, leN_t, leN_f, eqN_t, eqN_f, eqS_t, eqS_f, eqB_t, eqB_f, catOk_t, leC_t, lenS]; omega, ?_⟩
      rw [g, List.take_length, List.drop_zero, strV_all]
      exact hK
  · exact h.elim
theorem rsr_con {n : Nat} (hn : 2 ≤ n) : ConOk (evalF Tryz.prog cfgN n) 84 setRawCon := by
  intro vs bs K h
  unfold setRawCon at h
  split at h
  · rename_i r t xs b
    obtain ⟨l, rfl, hR, hK⟩ := h
    obtain ⟨a1, a2, a3, a4, a5⟩ := (rightL_iff _).1 hR
    dsimp only at a1 a2 a3 a4 a5
    refine run_of (lp := lpOf []) (by omega) (ct := ctOf [(96, rdelivCon)]) (fun k hk => ctOf_ok (ctOf_cons (rdl_con (by omega)) (ctOf_nil _))) ?_
    rw [rsr_vc]
    have f : ∀ {l' : Line}, setRawF ⟨r, t, l⟩ b = l' → K (.agg [.bool l'.raw, .str l'.text, .lst (strV l'.ready)]) [] := fun h => by subst h; exact hK
    have same : ¬ (b = true ∧ r = false ∧ t ≠ []) → K (.agg [.bool b, .str t, .lst (strV l)]) [] := fun hn => f (l' := ⟨b, t, l⟩) (by unfold setRawF; rw [if_neg hn])
    rw [br_iff]; refine ⟨fun hb => ?_, fun hb => same (by rw [hb]; simp)⟩
    rw [br_iff]; refine ⟨fun hr => ?_, fun hr => same (by simp only [notB, Bool.not_eq_false'] at hr; rw [hr]; simp)⟩
    simp only [notB, Bool.not_eq_true'] at hr
    rw [br_iff]; refine ⟨fun ht => ?_, fun ht => same (by simp only [br_iff, need_iff, andB_t, andB_f, orB_t, orB_f, notB_t, notB_f, leI_t, leI_f, ltI_t, ltI_f, eqI_t, eqI_f, leN_t, leN_f, eqN_t, eqN_f, eqS_t, eqS_f, eqB_t, eqB_f, catOk_t, leC_t] at ht; simp [ht])⟩
    have ht : t ≠ [] := by simpa only [br_iff, need_iff, andB_t, andB_f, orB_t, orB_f, notB_t, notB_f, leI_t, leI_f, ltI_t, ltI_f, eqI_t, eqI_f, leN_t, leN_f, eqN_t, eqN_f, eqS_t, eqS_f, eqB_t, eqB_f, catOk_t, leC_t] using ht
    refine ⟨l, rfl, by omega, ?_⟩
    have hc : b = true ∧ r = false ∧ t ≠ [] := ⟨hb, hr, ht⟩
    rw [br_iff]; refine ⟨fun g => ?_, fun g => ?_⟩
    · exact f (l' := ⟨b, [], l ++ [t]⟩) (by unfold setRawF; rw [if_pos hc, if_pos (by simp only [br_iff, need_iff, andB_t, andB_f, orB_t, orB_f, notB_t, notB_f, leI_t, leI_f, ltI_t, ltI_f, eqI_t, eqI_f, leN_t, leN_f, eqN_t, eqN_f, eqS_t, eqS_f, eqB_t, eqB_f, catOk_t, leC_t, Int.ofNat_eq_natCast] at g; show l.length < 1024; omega)])
    · exact f (l' := ⟨b, [], l⟩) (by unfold setRawF; rw [if_pos hc, if_neg (by simp only [br_iff, need_iff, andB_t, andB_f, orB_t, orB_f, notB_t, notB_f, leI_t, leI_f, ltI_t, ltI_f, eqI_t, eqI_f, leN_t, leN_f, eqN_t, eqN_f, eqS_t, eqS_f, eqB_t, eqB_f, catOk_t, leC_t, Int.ofNat_eq_natCast] at g; show ¬ l.length < 1024; omega)])
  · exact h.elim
theorem rnum_con {n : Nat} (hn : 2 ≤ n) : ConOk (evalF Tryz.prog cfgN n) 58 numCon := by
  intro vs bs K h
  unfold numCon at h
  split at h
  · rename_i s
    obtain ⟨hb, hY, hN⟩ := h
    obtain ⟨r, out, e, rfl, rfl⟩ := rp_run (b := 10) (most := 1048575) hn hb (by omega) (by omega)
    refine ⟨_, _, e, ?_⟩
    rw [numF_parse]
    cases hq : numF s with
    | none => exact hN hq
    | some m => exact hY m hq
  · exact h.elim
theorem rperm_con {n : Nat} (hn : 2 ≤ n) : ConOk (evalF Tryz.prog cfgN n) 52 permCon := by
  intro vs bs K h
  unfold permCon at h
  split at h
  · rename_i m
    obtain ⟨h1, h2, hK⟩ := h
    refine run_of (lp := lpOf []) (by omega) (ct := ctOf [(80, inlL Tryz.prog cfgN (ctOf []) (lpOf [(2, unrL 5)]) 80)]) (fun k hk => ctOf_ok (ctOf_cons (inlL_ok (by omega) (fun _ _ => noCt_ok _)) (ctOf_nil _))) ?_
    rw [rpm_vc]
    have f : ∀ {r}, permF m = r → K (.tup [.int .i64 r.1, .int .i64 r.2]) [] := fun h => by subst h; exact hK
    have ht : m.tmod 1000 = m ∨ (m < 0 ∨ 1000 ≤ m) := by
      by_cases h0 : 0 ≤ m
      · by_cases h3 : m < 1000
        · left; rw [tmod_pos h0]; omega
        · omega
      · omega
    have hb : -1000 < m.tmod 1000 ∧ m.tmod 1000 < 1000 := by
      by_cases h0 : 0 ≤ m
      · rw [tmod_pos h0]; omega
      · have e : m.tmod 1000 = -((-m).tmod 1000) := by rw [Int.neg_tmod]; omega
        rw [e, tmod_pos (by omega)]; omega
    generalize m.tmod 1000 = t at ht hb ⊢
    have node : ∀ (b x v : Int) (E : Prop), 0 ≤ b → b ≤ 3 → (permF (b + x)) = (v, 0) → (t ≠ b + x → E) →
        br (eqI (subI .i64 t b) x) (br (notB (eqI m t)) (K (V.tup [V.int IntKind.i64 0, V.int IntKind.i64 12]) []) (K (V.tup [V.int IntKind.i64 v, V.int IntKind.i64 0]) [])) E := by
      intro b x v E b0 b1 hp hE
      rw [subI_i64 (by omega) (by omega)]
      rw [br_iff]; refine ⟨fun g => ?_, fun g => hE (by have g : ¬ t - b = x := by simpa only [br_iff, need_iff, andB_t, andB_f, orB_t, orB_f, notB_t, notB_f, leI_t, leI_f, ltI_t, ltI_f, eqI_t, eqI_f, leN_t, leN_f, eqN_t, eqN_f, eqS_t, eqS_f, eqB_t, eqB_f, catOk_t, leC_t] using g
                                                        omega)⟩
      have g : t - b = x := by simpa only [br_iff, need_iff, andB_t, andB_f, orB_t, orB_f, notB_t, notB_f, leI_t, leI_f, ltI_t, ltI_f, eqI_t, eqI_f, leN_t, leN_f, eqN_t, eqN_f, eqS_t, eqS_f, eqB_t, eqB_f, catOk_t, leC_t] using g
      rw [br_iff]; refine ⟨fun q => f (r := (0, 12)) (permF_no fun b' hb1 hb2 => ?_), fun q => f (r := (v, 0)) ?_⟩
      · have q : ¬ m = t := by simpa only [br_iff, need_iff, andB_t, andB_f, orB_t, orB_f, notB_t, notB_f, leI_t, leI_f, ltI_t, ltI_f, eqI_t, eqI_f, leN_t, leN_f, eqN_t, eqN_f, eqS_t, eqS_f, eqB_t, eqB_f, catOk_t, leC_t] using q
        omega
      · have q : m = t := by simpa only [br_iff, need_iff, andB_t, andB_f, orB_t, orB_f, notB_t, notB_f, leI_t, leI_f, ltI_t, ltI_f, eqI_t, eqI_f, leN_t, leN_f, eqN_t, eqN_f, eqS_t, eqS_f, eqB_t, eqB_f, catOk_t, leC_t] using q
        rw [q, show t = b + x by omega]; exact hp
    refine node 0 0 4 _ (by omega) (by omega) (by decide) fun n1 => ?_
    refine node 0 64 4 _ (by omega) (by omega) (by decide) fun n2 => ?_
    refine node 0 16 6 _ (by omega) (by omega) (by decide) fun n3 => ?_
    refine node 0 80 6 _ (by omega) (by omega) (by decide) fun n4 => ?_
    refine node 1 0 2 _ (by omega) (by omega) (by decide) fun n5 => ?_
    refine node 1 64 2 _ (by omega) (by omega) (by decide) fun n6 => ?_
    refine node 1 16 2 _ (by omega) (by omega) (by decide) fun n7 => ?_
    refine node 1 80 2 _ (by omega) (by omega) (by decide) fun n8 => ?_
    refine node 2 0 6 _ (by omega) (by omega) (by decide) fun n9 => ?_
    refine node 2 64 6 _ (by omega) (by omega) (by decide) fun n10 => ?_
    refine node 2 16 6 _ (by omega) (by omega) (by decide) fun n11 => ?_
    refine node 2 80 6 _ (by omega) (by omega) (by decide) fun n12 => ?_
    refine node 3 0 1 _ (by omega) (by omega) (by decide) fun n13 => ?_
    refine node 3 64 1 _ (by omega) (by omega) (by decide) fun n14 => ?_
    refine node 3 16 3 _ (by omega) (by omega) (by decide) fun n15 => ?_
    refine node 3 80 3 _ (by omega) (by omega) (by decide) fun n16 => ?_
    exact f (r := (0, 12)) (permF_no fun b' hb1 hb2 => by
      rcases ht with ht | ht
      · subst ht
        rcases (by omega : b' = 0 ∨ b' = 1 ∨ b' = 2 ∨ b' = 3) with rfl | rfl | rfl | rfl <;> omega
      · omega)
  · exact h.elim
theorem wth_con {n : Nat} (hn : 1 ≤ n) : ConOk (evalF Tryz.prog cfgN n) 49 withCon := by
  intro vs bs K h
  unfold withCon at h
  split at h
  · rename_i nx f0 xs i id lb r t ys tx op g
    obtain ⟨l, j, ls, rfl, rfl, hj, hb, rfl, hK⟩ := h
    refine run_of (lp := lpOf []) hn (fun k _ => noCt_ok _) ?_
    rw [wth_vc]
    simp only [windowV_len]
    have gx := List.getElem?_eq_getElem hj
    generalize l[j] = x at gx
    rw [need_iff]; refine ⟨windowV_head _, ?_⟩
    rw [need_iff]; refine ⟨by simp only [br_iff, need_iff, andB_t, andB_f, orB_t, orB_f, notB_t, notB_f, leI_t, leI_f, ltI_t, ltI_f, eqI_t, eqI_f, leN_t, leN_f, eqN_t, eqN_f, eqS_t, eqS_f, eqB_t, eqB_f, catOk_t, leC_t]; omega, ?_⟩
    rw [nd hj, need_tt, kd hj, need_tt]
    refine ⟨windowV (l.set j ⟨id, lb, ⟨r, t, ls⟩, tx, op, g⟩), ptd gx rfl, ?_⟩
    rw [wallS]
    exact hK
  · exact h.elim
theorem wto_con {n : Nat} (hn : 1 ≤ n) : ConOk (evalF Tryz.prog cfgN n) 61 withoutCon := by
  intro vs bs K h
  unfold withoutCon at h
  split at h
  · rename_i nx f0 xs i
    obtain ⟨l, j, rfl, rfl, hj, hb, hK⟩ := h
    refine run_of (lp := lpOf []) hn (fun k _ => noCt_ok _) ?_
    rw [wto_vc]
    have ei : addI .i64 (j : Int) 1 = ((j + 1 : Nat) : Int) := by rw [addI_i64 (by omega) (by omega)]; rfl
    have e1 : cutL (windowV l) 0 (j : Int) = windowV (l.take j) := by simp [cutL, windowV, List.map_take]
    have e2 : cutL (windowV l) ((j + 1 : Nat) : Int) (lenL (windowV l)) = windowV (l.drop (j + 1)) := by
      simp only [cutL, lenL, Int.toNat_natCast, windowV, List.map_drop]
      exact List.take_of_length_le (by simp)
    have l1 : (l.take j).length = j := by rw [List.length_take]; omega
    have l2 : (l.drop (j + 1)).length = l.length - (j + 1) := List.length_drop
    have e3 : l.take j ++ l.drop (j + 1) = l.eraseIdx j := (List.eraseIdx_eq_take_drop_succ ..).symm
    rw [ei, e1, e2]
    simp only [windowV_len, windowV_lenL, l1, l2]
    generalize l.take j = A at l1 e3 ⊢
    generalize l.drop (j + 1) = B at l2 e3 ⊢
    rw [← e3] at hK
    have hA : (windowV A).length = j := by rw [windowV_len]; exact l1
    have hB : (windowV B).length = l.length - (j + 1) := by rw [windowV_len]; exact l2
    rw [need_iff]; refine ⟨windowV_head _, ?_⟩
    rw [need_iff]; refine ⟨by simp only [br_iff, need_iff, andB_t, andB_f, orB_t, orB_f, notB_t, notB_f, leI_t, leI_f, ltI_t, ltI_f, eqI_t, eqI_f, leN_t, leN_f, eqN_t, eqN_f, eqS_t, eqS_f, eqB_t, eqB_f, catOk_t, leC_t, Int.ofNat_eq_natCast]; omega, ?_⟩
    rw [need_iff]; refine ⟨windowV_head _, ?_⟩
    rw [need_iff]; refine ⟨by simp only [br_iff, need_iff, andB_t, andB_f, orB_t, orB_f, notB_t, notB_f, leI_t, leI_f, ltI_t, ltI_f, eqI_t, eqI_f, leN_t, leN_f, eqN_t, eqN_f, eqS_t, eqS_f, eqB_t, eqB_f, catOk_t, leC_t]; omega, ?_⟩
    rw [need_iff]; refine ⟨windowV_head _, ?_⟩
    rw [need_iff]; refine ⟨by simp only [br_iff, need_iff, andB_t, andB_f, orB_t, orB_f, notB_t, notB_f, leI_t, leI_f, ltI_t, ltI_f, eqI_t, eqI_f, leN_t, leN_f, eqN_t, eqN_f, eqS_t, eqS_f, eqB_t, eqB_f, catOk_t, leC_t, Int.ofNat_eq_natCast]; omega, ?_⟩
    rw [need_iff]; refine ⟨windowV_head _, ?_⟩
    rw [need_iff]; refine ⟨windowV_head _, ?_⟩
    rw [br_iff]; refine ⟨fun g => ?_, fun g => ?_⟩
    · have g : l.length - (j + 1) = 0 := by simp only [br_iff, need_iff, andB_t, andB_f, orB_t, orB_f, notB_t, notB_f, leI_t, leI_f, ltI_t, ltI_f, eqI_t, eqI_f, leN_t, leN_f, eqN_t, eqN_f, eqS_t, eqS_f, eqB_t, eqB_f, catOk_t, leC_t] at g; omega
      rw [g] at hB l2 ⊢
      obtain rfl : B = [] := List.length_eq_zero_iff.1 l2
      have e4 : List.take (j + 0) (List.drop 0 (List.take (0 + j) (windowV A) ++ windowV [] ++ List.drop (0 + j + 0) (windowV A))) = windowV A := by
        rw [Nat.zero_add, Nat.add_zero, List.drop_zero, show windowV [] = [] from rfl, List.append_nil, ← hA, List.take_length, List.drop_length, List.append_nil, List.take_length]
      rw [e4]
      rw [List.append_nil] at hK
      exact hK
    · rw [need_iff]; refine ⟨by simp only [br_iff, need_iff, andB_t, andB_f, orB_t, orB_f, notB_t, notB_f, leI_t, leI_f, ltI_t, ltI_f, eqI_t, eqI_f, leN_t, leN_f, eqN_t, eqN_f, eqS_t, eqS_f, eqB_t, eqB_f, catOk_t, leC_t]; omega, ?_⟩
      rw [need_iff]; refine ⟨by simp only [br_iff, need_iff, andB_t, andB_f, orB_t, orB_f, notB_t, notB_f, leI_t, leI_f, ltI_t, ltI_f, eqI_t, eqI_f, leN_t, leN_f, eqN_t, eqN_f, eqS_t, eqS_f, eqB_t, eqB_f, catOk_t, leC_t]; omega, ?_⟩
      have e4 : List.take (j + (l.length - (j + 1))) (List.drop 0 (List.drop 0 (windowV A) ++ windowV B)) = windowV (A ++ B) := by
        rw [List.drop_zero, List.drop_zero, List.take_of_length_le (by rw [List.length_append]; omega)]
        simp [windowV]
      rw [e4]
      exact hK
  · exact h.elim
theorem pc_con {n : Nat} (hn : 1 ≤ n) : ConOk (evalF Tryz.prog cfgN n) 55 pieceCon := by
  intro vs bs K h
  unfold pieceCon at h
  split at h
  · rename_i s off cnt
    obtain ⟨h0, h1, hK⟩ := h
    refine run_of (lp := lpOf []) hn (fun k _ => noCt_ok _) ?_
    rw [pc_vc]
    obtain ⟨a, rfl⟩ := Int.eq_ofNat_of_zero_le h0
    obtain ⟨b, rfl⟩ := Int.eq_ofNat_of_zero_le h1
    rw [Int.toNat_natCast, Int.toNat_natCast] at hK
    rw [br_iff]; refine ⟨fun g => ?_, fun g => ?_⟩
    · have g : s.length ≤ a := by simp only [br_iff, need_iff, andB_t, andB_f, orB_t, orB_f, notB_t, notB_f, leI_t, leI_f, ltI_t, ltI_f, eqI_t, eqI_f, leN_t, leN_f, eqN_t, eqN_f, eqS_t, eqS_f, eqB_t, eqB_f, catOk_t, leC_t, lenS] at g; omega
      rw [List.drop_of_length_le g, List.take_nil] at hK
      exact hK
    have g : a < s.length := by simp only [br_iff, need_iff, andB_t, andB_f, orB_t, orB_f, notB_t, notB_f, leI_t, leI_f, ltI_t, ltI_f, eqI_t, eqI_f, leN_t, leN_f, eqN_t, eqN_f, eqS_t, eqS_f, eqB_t, eqB_f, catOk_t, leC_t, lenS] at g; omega
    rw [need_iff]; refine ⟨by simp only [br_iff, need_iff, andB_t, andB_f, orB_t, orB_f, notB_t, notB_f, leI_t, leI_f, ltI_t, ltI_f, eqI_t, eqI_f, leN_t, leN_f, eqN_t, eqN_f, eqS_t, eqS_f, eqB_t, eqB_f, catOk_t, leC_t, lenS]; omega, ?_⟩
    have e1 : cutS s (a : Int) (lenS s) = s.drop a := by
      simp only [cutS, lenS, Int.toNat_natCast]
      exact List.take_of_length_le (by simp)
    rw [e1]
    have e2 : cutS (s.drop a) 0 (b : Int) = (s.drop a).take b := by simp [cutS]
    rw [e2]
    rw [br_iff]; refine ⟨fun q => ?_, fun q => ?_⟩
    · rw [need_iff]; refine ⟨by simp only [br_iff, need_iff, andB_t, andB_f, orB_t, orB_f, notB_t, notB_f, leI_t, leI_f, ltI_t, ltI_f, eqI_t, eqI_f, leN_t, leN_f, eqN_t, eqN_f, eqS_t, eqS_f, eqB_t, eqB_f, catOk_t, leC_t] at q ⊢; omega, hK⟩
    · rw [List.take_of_length_le (by simp only [br_iff, need_iff, andB_t, andB_f, orB_t, orB_f, notB_t, notB_f, leI_t, leI_f, ltI_t, ltI_f, eqI_t, eqI_f, leN_t, leN_f, eqN_t, eqN_f, eqS_t, eqS_f, eqB_t, eqB_f, catOk_t, leC_t, lenS] at q; omega)] at hK; exact hK
  · exact h.elim
theorem dsp_con {n : Nat} (hn : 1 ≤ n) : ConOk (evalF Tryz.prog cfgN n) 50 showCon := by
  intro vs bs K h
  unfold showCon at h
  split at h
  · rename_i id lb r t ys tx op g s
    obtain ⟨hb, hK⟩ := h
    refine run_of (lp := lpOf []) hn (fun k _ => noCt_ok _) ?_
    rw [dsp_vc]
    have hl : (catS tx s).length = tx.length + s.length := List.length_append
    rw [need_iff]; refine ⟨by simp only [br_iff, need_iff, andB_t, andB_f, orB_t, orB_f, notB_t, notB_f, leI_t, leI_f, ltI_t, ltI_f, eqI_t, eqI_f, leN_t, leN_f, eqN_t, eqN_f, eqS_t, eqS_f, eqB_t, eqB_f, catOk_t, leC_t]; omega, ?_⟩
    rw [br_iff]; refine ⟨fun q => ?_, fun q => ?_⟩
    · have q : 65536 < (catS tx s).length := by simp only [br_iff, need_iff, andB_t, andB_f, orB_t, orB_f, notB_t, notB_f, leI_t, leI_f, ltI_t, ltI_f, eqI_t, eqI_f, leN_t, leN_f, eqN_t, eqN_f, eqS_t, eqS_f, eqB_t, eqB_f, catOk_t, leC_t, lenS] at q; omega
      have e1 : subI .i64 (lenS (catS tx s)) 65536 = (((catS tx s).length - 65536 : Nat) : Int) := by
        rw [subI_i64 (by unfold lenS; omega) (by unfold lenS; omega)]
        unfold lenS; omega
      rw [e1]
      rw [need_iff]; refine ⟨by simp only [br_iff, need_iff, andB_t, andB_f, orB_t, orB_f, notB_t, notB_f, leI_t, leI_f, ltI_t, ltI_f, eqI_t, eqI_f, leN_t, leN_f, eqN_t, eqN_f, eqS_t, eqS_f, eqB_t, eqB_f, catOk_t, leC_t, lenS]; omega, ?_⟩
      have e2 : cutS (catS tx s) (((catS tx s).length - 65536 : Nat) : Int) (lenS (catS tx s)) = showT tx s := by
        simp only [cutS, lenS, Int.toNat_natCast, showT]
        exact List.take_of_length_le (by simp [catS])
      rw [e2]; exact hK
    · have q : (catS tx s).length ≤ 65536 := by simp only [br_iff, need_iff, andB_t, andB_f, orB_t, orB_f, notB_t, notB_f, leI_t, leI_f, ltI_t, ltI_f, eqI_t, eqI_f, leN_t, leN_f, eqN_t, eqN_f, eqS_t, eqS_f, eqB_t, eqB_f, catOk_t, leC_t, lenS] at q; omega
      have e2 : showT tx s = catS tx s := by
        show (tx ++ s).drop ((tx ++ s).length - 65536) = tx ++ s
        have q : (tx ++ s).length ≤ 65536 := q
        rw [show (tx ++ s).length - 65536 = 0 by omega, List.drop_zero]
      rw [e2] at hK; exact hK
  · exact h.elim
theorem rcm_con {n : Nat} (hn : 1 ≤ n) : ConOk (evalF Tryz.prog cfgN n) 59 cmdCon := by
  intro vs bs K h
  unfold cmdCon at h
  split at h
  · rename_i s
    obtain ⟨hb, hK⟩ := h
    refine run_of (lp := lpOf []) hn (fun k _ => noCt_ok _) ?_
    rw [rcm_vc]
    rw [br_iff]; refine ⟨fun g => ?_, fun g => ?_⟩
    · have g : 0 < s.length := by simp only [br_iff, need_iff, andB_t, andB_f, orB_t, orB_f, notB_t, notB_f, leI_t, leI_f, ltI_t, ltI_f, eqI_t, eqI_f, leN_t, leN_f, eqN_t, eqN_f, eqS_t, eqS_f, eqB_t, eqB_f, catOk_t, leC_t, lenS] at g; omega
      obtain ⟨t, c, rfl⟩ : ∃ t c, s = t ++ [c] := ⟨s.dropLast, s.getLast (by intro h; rw [h] at g; simp at g), (List.dropLast_concat_getLast _).symm⟩
      rw [List.length_append, List.length_singleton] at hb
      have e1 : subI .i64 (lenS (t ++ [c])) 1 = (t.length : Int) := by
        rw [subI_i64 (by unfold lenS; simp) (by unfold lenS; simp; omega)]
        unfold lenS; simp
      have hl : lenS (t ++ [c]) = (t.length : Int) + 1 := by unfold lenS; simp
      have e2 : atS (t ++ [c]) (t.length : Int) = (c.toNat : Int) := by
        rw [atS_at (by simp)]; simp
      have e3 : cutS (t ++ [c]) 0 (t.length : Int) = t := by simp [cutS]
      rw [e1, e2, e3, hl]
      rw [need_iff]; refine ⟨by simp only [br_iff, need_iff, andB_t, andB_f, orB_t, orB_f, notB_t, notB_f, leI_t, leI_f, ltI_t, ltI_f, eqI_t, eqI_f, leN_t, leN_f, eqN_t, eqN_f, eqS_t, eqS_f, eqB_t, eqB_f, catOk_t, leC_t]; omega, ?_⟩
      have ec : cmdF (t ++ [c]) = if c = 10 then t else t ++ [c] := by
        unfold cmdF
        simp
      rw [ec] at hK
      rw [br_iff]; refine ⟨fun q => ?_, fun q => ?_⟩
      · have q : c = 10 := UInt8.toNat_inj.1 (by have : (c.toNat : Int) = 10 := by simpa only [br_iff, need_iff, andB_t, andB_f, orB_t, orB_f, notB_t, notB_f, leI_t, leI_f, ltI_t, ltI_f, eqI_t, eqI_f, leN_t, leN_f, eqN_t, eqN_f, eqS_t, eqS_f, eqB_t, eqB_f, catOk_t, leC_t] using q
                                                 show c.toNat = 10; omega)
        rw [if_pos q] at hK
        rw [need_iff]; exact ⟨by simp only [br_iff, need_iff, andB_t, andB_f, orB_t, orB_f, notB_t, notB_f, leI_t, leI_f, ltI_t, ltI_f, eqI_t, eqI_f, leN_t, leN_f, eqN_t, eqN_f, eqS_t, eqS_f, eqB_t, eqB_f, catOk_t, leC_t]; omega, hK⟩
      · have q : ¬ c = 10 := by rintro rfl; simp [eqI] at q
        rw [if_neg q] at hK; exact hK
    · have g : s = [] := List.length_eq_zero_iff.1 (by simp only [br_iff, need_iff, andB_t, andB_f, orB_t, orB_f, notB_t, notB_f, leI_t, leI_f, ltI_t, ltI_f, eqI_t, eqI_f, leN_t, leN_f, eqN_t, eqN_f, eqS_t, eqS_f, eqB_t, eqB_f, catOk_t, leC_t, lenS] at g; omega)
      subst g
      exact hK
  · exact h.elim
theorem rmk_con {n : Nat} (hn : 1 ≤ n) : ConOk (evalF Tryz.prog cfgN n) 21 makeCon := by
  intro vs bs K h
  unfold makeCon at h
  split at h
  · rename_i nx f0 xs s
    obtain ⟨l, rfl, hb, hx, hK⟩ := h
    refine run_of (lp := lpOf []) (by omega) (fun k hk => noCt_ok _) ?_
    rw [rmk_vc]
    have f : ∀ {r}, makeF ⟨nx, f0, l⟩ s = r → K (.tup [.agg [.int .i64 r.1.next, .int .i64 r.1.focus, .lst (windowV r.1.l)], .int .i64 r.2.1, .int .i64 r.2.2]) [] := fun h => by subst h; exact hK
    have hlen := hb.1
    simp only [windowV_lenL, windowV_len]
    rw [br_iff]; refine ⟨fun g => f (r := (⟨nx, f0, l⟩, 0, 4)) (by unfold makeF; rw [if_pos (by simp only [br_iff, need_iff, andB_t, andB_f, orB_t, orB_f, notB_t, notB_f, leI_t, leI_f, ltI_t, ltI_f, eqI_t, eqI_f, leN_t, leN_f, eqN_t, eqN_f, eqS_t, eqS_f, eqB_t, eqB_f, catOk_t, leC_t, lenS] at g; omega)]), fun g1 => ?_⟩
    have g1 : ¬ 64 < s.length := by simp only [br_iff, need_iff, andB_t, andB_f, orB_t, orB_f, notB_t, notB_f, leI_t, leI_f, ltI_t, ltI_f, eqI_t, eqI_f, leN_t, leN_f, eqN_t, eqN_f, eqS_t, eqS_f, eqB_t, eqB_f, catOk_t, leC_t, lenS] at g1; omega
    rw [br_iff]; refine ⟨fun g => f (r := (⟨nx, f0, l⟩, 0, 22)) (by unfold makeF; rw [if_neg g1, if_pos (.inl (by simp only [br_iff, need_iff, andB_t, andB_f, orB_t, orB_f, notB_t, notB_f, leI_t, leI_f, ltI_t, ltI_f, eqI_t, eqI_f, leN_t, leN_f, eqN_t, eqN_f, eqS_t, eqS_f, eqB_t, eqB_f, catOk_t, leC_t] at g; simp only; omega))]), fun g2 => ?_⟩
    rw [br_iff]; refine ⟨fun g => f (r := (⟨nx, f0, l⟩, 0, 22)) (by unfold makeF; rw [if_neg g1, if_pos (.inr (by simpa only [br_iff, need_iff, andB_t, andB_f, orB_t, orB_f, notB_t, notB_f, leI_t, leI_f, ltI_t, ltI_f, eqI_t, eqI_f, leN_t, leN_f, eqN_t, eqN_f, eqS_t, eqS_f, eqB_t, eqB_f, catOk_t, leC_t] using g))]), fun g3 => ?_⟩
    simp only [br_iff, need_iff, andB_t, andB_f, orB_t, orB_f, notB_t, notB_f, leI_t, leI_f, ltI_t, ltI_f, eqI_t, eqI_f, leN_t, leN_f, eqN_t, eqN_f, eqS_t, eqS_f, eqB_t, eqB_f, catOk_t, leC_t] at g2 g3
    rw [need_iff]; refine ⟨windowV_head _, ?_⟩
    rw [need_iff]; refine ⟨by simp only [br_iff, need_iff, andB_t, andB_f, orB_t, orB_f, notB_t, notB_f, leI_t, leI_f, ltI_t, ltI_f, eqI_t, eqI_f, leN_t, leN_f, eqN_t, eqN_f, eqS_t, eqS_f, eqB_t, eqB_f, catOk_t, leC_t]; omega, ?_⟩
    rw [need_iff]; refine ⟨windowV_head _, ?_⟩
    rw [br_iff]; refine ⟨fun g => by simp only [br_iff, need_iff, andB_t, andB_f, orB_t, orB_f, notB_t, notB_f, leI_t, leI_f, ltI_t, ltI_f, eqI_t, eqI_f, leN_t, leN_f, eqN_t, eqN_f, eqS_t, eqS_f, eqB_t, eqB_f, catOk_t, leC_t] at g; omega, fun _ => ?_⟩
    rw [need_iff]; refine ⟨by simp only [br_iff, need_iff, andB_t, andB_f, orB_t, orB_f, notB_t, notB_f, leI_t, leI_f, ltI_t, ltI_f, eqI_t, eqI_f, leN_t, leN_f, eqN_t, eqN_f, eqS_t, eqS_f, eqB_t, eqB_f, catOk_t, leC_t, windowV_len]; omega, ?_⟩
    rw [need_iff]; refine ⟨by simp only [br_iff, need_iff, andB_t, andB_f, orB_t, orB_f, notB_t, notB_f, leI_t, leI_f, ltI_t, ltI_f, eqI_t, eqI_f, leN_t, leN_f, eqN_t, eqN_f, eqS_t, eqS_f, eqB_t, eqB_f, catOk_t, leC_t]; omega, ?_⟩
    have e := f (r := (⟨nx + 1, nx, l ++ [⟨nx, s, lineZ, [], 0, false⟩]⟩, nx, 0)) (by unfold makeF; rw [if_neg g1, if_neg (by simp only; omega)])
    rw [addI_i64 (by omega) (by omega)]
    have e2 : List.take (l.length + 1) (List.drop 0 (List.drop 0 (windowV l) ++ [[V.int IntKind.i64 nx, V.str s, V.bool false, V.str [], V.lst [], V.str [], V.int IntKind.i64 0, V.bool false]])) = windowV (l ++ [⟨nx, s, lineZ, [], 0, false⟩]) := by
      rw [List.drop_zero, List.drop_zero, ← windowV_app]
      exact List.take_of_length_le (by simp [windowV_len])
    rw [e2]
    exact e
  · exact h.elim
theorem rfo_con {n : Nat} (hn : 3 ≤ n) : ConOk (evalF Tryz.prog cfgN n) 22 focusCon := by
  intro vs bs K h
  unfold focusCon at h
  split at h
  · rename_i nx f0 xs id
    obtain ⟨l, rfl, hb, hK⟩ := h
    refine run_of (lp := lpOf []) (by omega) (ct := ctOf [(46, seenCon)]) (fun k hk => ctOf_ok (ctOf_cons (rs_con (by omega)) (ctOf_nil _))) ?_
    rw [rfo_vc]
    have f : ∀ {r}, focusF ⟨nx, f0, l⟩ id = r → K (.tup [.agg [.int .i64 r.1.next, .int .i64 r.1.focus, .lst (windowV r.1.l)], .int .i64 r.2]) [] := fun h => by subst h; exact hK
    have hlen := hb.1
    refine ⟨l, rfl, by omega, ?_⟩
    rw [br_iff]; refine ⟨fun g => f (r := (⟨nx, f0, l⟩, 8)) ?_, fun g => f (r := (⟨nx, id, l⟩, 0)) ?_⟩
    · simp only [notB, Bool.not_eq_true'] at g
      unfold focusF; simp only [g]; rfl
    · simp only [notB, Bool.not_eq_false'] at g
      unfold focusF; rw [if_pos g]
  · exact h.elim
end Go.Proofs.YtdbbpibfejchfaaGreatDoor
namespace Go.Proofs.YtdbbpibfejchfaaGreatDoor
open Go.RowKit
set_option maxRecDepth 100000
set_option linter.unusedVariables false
set_option linter.unusedSimpArgs false
theorem rexB_some {l : List Window} {id : Int} (h : exB l id = true) : ∃ p, fileF l id = some p := by
  unfold exB at h
  cases hq : fileF l id with
  | none => rw [hq] at h; cases h
  | some p => exact ⟨p, rfl⟩
theorem rexB_none {l : List Window} {id : Int} (h : exB l id = false) : fileF l id = none := by
  unfold exB at h
  cases hq : fileF l id with
  | none => rfl
  | some p => rw [hq] at h; cases h
theorem file_x {l : List Window} {id : Int} {p : Place} (h : fileF l id = some p) : p.mode = modeF id ∧ (dirB id = true ↔ 2147483648 ≤ p.mode) ∧ 0 < id ∧ p.id = id ∧
    ((p.window = -1 ∧ p.file = 0 ∧ id < 16 ∧ (id = 1 ∧ dirB id = true ∨ id = 2 ∧ dirB id = false)) ∨
    ∃ (i : Nat) (x : Window), 16 ≤ id ∧ idxW l (id / 16) = (i : Int) ∧ l[i]? = some x ∧ i < l.length ∧ wAt l (i : Int) = x ∧ p.window = (i : Int) ∧ p.file = id % 16 ∧ dirB id = decide (id % 16 = 0) ∧ 0 ≤ id % 16 ∧ id % 16 ≤ 5 ∧ seenW l (id / 16) = !x.gone) := by
  rcases file_cases h with ⟨h1, rfl⟩ | ⟨h1, rfl⟩ | ⟨i, x, h1, h2, h3, h4, h5, h6, h7, h8, h9, h10, h11, hm⟩
  · subst h1; exact ⟨by decide, by decide, by omega, rfl, .inl ⟨rfl, rfl, by omega, .inl ⟨rfl, by decide⟩⟩⟩
  · subst h1; exact ⟨by decide, by decide, by omega, rfl, .inl ⟨rfl, rfl, by omega, .inr ⟨rfl, by decide⟩⟩⟩
  · have hd : dirB id = decide (id % 16 = 0) := by
      unfold dirB
      rw [decide_eq_false (p := id = 1) (by omega), decide_eq_true (p := 16 ≤ id) h1]; simp
    have hk := modeK_lt (id % 16)
    have hs : seenW l (id / 16) = !x.gone := by
      unfold seenW
      rw [h2, h6, decide_eq_true (by omega)]; rfl
    refine ⟨?_, ?_, by omega, h9, .inr ⟨i, x, h1, h2, h3, h4, h6, h10, h11, hd, h7, h8, hs⟩⟩
    · rcases hm with ⟨q1, q2, q3, q4⟩ | ⟨q1, q2, q3⟩
      · unfold modeF; rw [if_pos (by rw [hd]; exact decide_eq_true q1), q3]
      · unfold modeF; rw [if_neg (by rw [hd]; simpa using q1), if_neg (by omega), q2]
    · rcases hm with ⟨q1, q2, q3, q4⟩ | ⟨q1, q2, q3⟩
      · simp [hd, q1, q3]
      · rw [hd, q2]
        constructor
        · intro h; exact absurd (of_decide_eq_true h) q1
        · intro h; omega
theorem bits_ok {g w : Int} (hg : g = 6 ∨ g = 2 ∨ g = 4 ∨ g = 5) (hw : w = 4 ∨ w = 2 ∨ w = 6 ∨ w = 1 ∨ w = 3) : (decide (andI .i64 g w ≠ w)) = (ltI ((quoI .i64 g 4).tmod 2) ((quoI .i64 w 4).tmod 2) || ltI ((quoI .i64 g 2).tmod 2) ((quoI .i64 w 2).tmod 2) || ltI (g.tmod 2) (w.tmod 2)) := by
  rcases hg with rfl | rfl | rfl | rfl <;> rcases hw with rfl | rfl | rfl | rfl | rfl <;> decide +kernel
theorem permF_w {m : Int} (h : (permF m).2 = 0) : (permF m).1 = 4 ∨ (permF m).1 = 2 ∨ (permF m).1 = 6 ∨ (permF m).1 = 1 ∨ (permF m).1 = 3 := by
  revert h
  unfold permF
  repeat' split
  all_goals intro h; simp at h ⊢
theorem rtp_con {n : Nat} (hn : 4 ≤ n) : ConOk (evalF Tryz.prog cfgN n) 23 wtypeCon := by
  intro vs bs K h
  unfold wtypeCon at h
  split at h
  · rename_i nx f0 xs s
    obtain ⟨l, rfl, hRb, hs, hK⟩ := h
    have hR := (rightW_iff _).1 hRb
    have hb := right_small hR
    have hlen := hb.1
    dsimp only at hlen
    refine run_of (lp := lpOf []) (by omega) (ct := ctOf [(47, idxCon), (48, feedCon), (50, showCon), (49, withCon)]) (fun k hk => ctOf_ok (ctOf_cons (ra_con (by omega)) (ctOf_cons (rfd_con (by omega)) (ctOf_cons (dsp_con (by omega)) (ctOf_cons (wth_con (by omega)) (ctOf_nil _)))))) ?_
    rw [rtp_vc]
    have f : ∀ {r}, typeW ⟨nx, f0, l⟩ s = r → K (.agg [.int .i64 r.next, .int .i64 r.focus, .lst (windowV r.l)]) [] := fun h => by subst h; exact hK
    refine ⟨l, rfl, by omega, ?_⟩
    rw [br_iff]; refine ⟨fun g => f (r := ⟨nx, f0, l⟩) (by unfold typeW; rw [if_pos (by simpa only [br_iff, need_iff, andB_t, andB_f, orB_t, orB_f, notB_t, notB_f, leI_t, leI_f, ltI_t, ltI_f, eqI_t, eqI_f, leN_t, leN_f, eqN_t, eqN_f, eqS_t, eqS_f, eqB_t, eqB_f, catOk_t, leC_t] using g)]), fun g => ?_⟩
    have g : 0 ≤ idxW l f0 := by simp only [br_iff, need_iff, andB_t, andB_f, orB_t, orB_f, notB_t, notB_f, leI_t, leI_f, ltI_t, ltI_f, eqI_t, eqI_f, leN_t, leN_f, eqN_t, eqN_f, eqS_t, eqS_f, eqB_t, eqB_f, catOk_t, leC_t] at g; omega
    obtain ⟨i, x, e1, e2, e3, e4, e5⟩ := idxW_found g
    have hx := hR.sound x (List.mem_of_getElem? e2)
    have hxl := sound_line hx
    have hE := feedF_echo s hxl
    obtain ⟨_, ht, _⟩ := (soundW_iff x).1 hx
    rw [e1, ndL e3, need_tt, kdL e3, need_tt]
    refine ⟨x.id, x.label, x.line.raw, x.line.text, strV x.line.ready, x.text, x.opens, x.gone, by rw [windowV_row e2]; rfl, x.line.ready, rfl, hxl, hs, ?_, l, i, (feedF x.line s).1.ready, rfl, rfl, e3, by omega, rfl, ?_⟩
    · show x.text.length + (feedF x.line s).2.length ≤ _
      omega
    have e : feedW x s = ⟨x.id, x.label, ⟨(feedF x.line s).1.raw, (feedF x.line s).1.text, (feedF x.line s).1.ready⟩, showT x.text (feedF x.line s).2, x.opens, x.gone⟩ := by
      unfold feedW showF showT
      dsimp only
    have := f (r := ⟨nx, f0, l.set i (feedW x s)⟩) (by unfold typeW; simp only; rw [if_neg (by omega), e1, e5]; unfold setW; rw [Int.toNat_natCast])
    rw [e] at this
    exact this
  · exact h.elim
theorem rop_con {n : Nat} (hn : 4 ≤ n) : ConOk (evalF Tryz.prog cfgN n) 24 openCon := by
  intro vs bs K h
  unfold openCon at h
  split at h
  · rename_i nx f0 xs id m
    obtain ⟨l, rfl, hRb, hid, hm1, hm2, hK⟩ := h
    have hR := (rightW_iff _).1 hRb
    have hb := right_small hR
    have hlen := hb.1
    dsimp only at hlen
    refine run_of (lp := lpOf []) (by omega) (ct := ctOf [(51, exCon), (46, seenCon), (52, permCon), (53, modeCon), (54, dirCon), (47, idxCon), (49, withCon)]) (fun k hk => ctOf_ok (ctOf_cons (rx_con (by omega)) (ctOf_cons (rs_con (by omega)) (ctOf_cons (rperm_con (by omega)) (ctOf_cons (rm_con (by omega)) (ctOf_cons (rd2_con (by omega)) (ctOf_cons (ra_con (by omega)) (ctOf_cons (wth_con (by omega)) (ctOf_nil _))))))))) ?_
    rw [rop_vc]
    have f : ∀ {r}, openF ⟨nx, f0, l⟩ id m = r → K (.tup [.agg [.int .i64 r.1.next, .int .i64 r.1.focus, .lst (windowV r.1.l)], .int .i64 r.2]) [] := fun h => by subst h; exact hK
    refine ⟨l, rfl, by omega, hid, ?_⟩
    rw [br_iff]; refine ⟨fun g => ?_, fun g => ?_⟩
    · have hp := rexB_none (l := l) (id := id) (by simpa [notB] using g)
      exact f (r := (⟨nx, f0, l⟩, 8)) (by unfold openF; simp only [hp])
    obtain ⟨p, hp⟩ := rexB_some (l := l) (id := id) (by simpa [notB] using g)
    have hmode := place_mode hp
    obtain ⟨r1, r2, r3, r4, rc⟩ := file_x hp
    have eF : openF ⟨nx, f0, l⟩ id m = if 0 ≤ p.window ∧ (wAt l p.window).gone = true then (⟨nx, f0, l⟩, 8)
        else if (permF m).2 ≠ 0 then (⟨nx, f0, l⟩, (permF m).2)
        else if 2147483648 ≤ p.mode ∧ m ≠ 0 then (⟨nx, f0, l⟩, 10)
        else if 64 ≤ m ∨ andI .i64 (p.mode % 8) (permF m).1 ≠ (permF m).1 then (⟨nx, f0, l⟩, 11)
        else if p.window < 0 ∨ p.file = 0 then (⟨nx, f0, l⟩, 0)
        else if 9007199254740991 ≤ (wAt l p.window).opens then (⟨nx, f0, l⟩, 22)
        else (setW ⟨nx, f0, l⟩ p.window { wAt l p.window with opens := (wAt l p.window).opens + 1 }, 0) := by
      unfold openF; simp only [hp]
    have v2 : ¬ (0 ≤ p.window ∧ (wAt l p.window).gone = true) → (permF m).2 = 0 → ¬ (2147483648 ≤ p.mode ∧ m ≠ 0) → rop_vc_2 nx f0 (windowV l) id m K := by
      intro c1 c2 c3
      rw [if_neg c1, if_neg (by simp [c2]), if_neg c3] at eF
      unfold rop_vc_2
      rw [br_iff]; refine ⟨fun g => f (r := (⟨nx, f0, l⟩, 11)) (by rw [eF, if_pos (.inl (by simpa only [br_iff, need_iff, andB_t, andB_f, orB_t, orB_f, notB_t, notB_f, leI_t, leI_f, ltI_t, ltI_f, eqI_t, eqI_f, leN_t, leN_f, eqN_t, eqN_f, eqS_t, eqS_f, eqB_t, eqB_f, catOk_t, leC_t] using g))]), fun g64 => ?_⟩
      have hg : (modeF id).tmod 8 = p.mode % 8 ∧ (p.mode % 8 = 6 ∨ p.mode % 8 = 2 ∨ p.mode % 8 = 4 ∨ p.mode % 8 = 5) := by
        rw [← r1]
        exact ⟨mode_and (w := 0) _ hmode, by rcases hmode with h | h | h | h <;> rw [h] <;> decide⟩
      rw [hg.1]
      have hbits := bits_ok hg.2 (permF_w c2)
      generalize p.mode % 8 = gr at eF hbits ⊢
      rw [br_iff]; refine ⟨fun g => f (r := (⟨nx, f0, l⟩, 11)) (by rw [eF, if_pos (.inr (of_decide_eq_true (by rw [hbits, g]; rfl)))]), fun q1 => ?_⟩
      rw [br_iff]; refine ⟨fun g => f (r := (⟨nx, f0, l⟩, 11)) (by rw [eF, if_pos (.inr (of_decide_eq_true (by rw [hbits, g]; simp)))]), fun q2 => ?_⟩
      rw [br_iff]; refine ⟨fun g => f (r := (⟨nx, f0, l⟩, 11)) (by rw [eF, if_pos (.inr (of_decide_eq_true (by rw [hbits, g]; simp)))]), fun q3 => ?_⟩
      rw [q1, q2, q3] at hbits
      have hbits := of_decide_eq_false hbits
      rw [if_neg (by rintro (h | h); simp only [br_iff, need_iff, andB_t, andB_f, orB_t, orB_f, notB_t, notB_f, leI_t, leI_f, ltI_t, ltI_f, eqI_t, eqI_f, leN_t, leN_f, eqN_t, eqN_f, eqS_t, eqS_f, eqB_t, eqB_f, catOk_t, leC_t] at g64; omega; exact hbits h)] at eF
      rw [br_iff]; refine ⟨fun g => f (r := (⟨nx, f0, l⟩, 0)) ?_, fun gd => ?_⟩
      · rw [eF, if_pos]
        rcases rc with ⟨a1, a2, _⟩ | ⟨i, x, b1, b2, b3, b4, b5, b6, b7, b8, _⟩
        · exact .inr a2
        · right; rw [b7]; rw [b8] at g; exact of_decide_eq_true g
      rw [br_iff]; refine ⟨fun g => f (r := (⟨nx, f0, l⟩, 0)) ?_, fun g2 => ?_⟩
      · have g : id = 2 := by simpa only [br_iff, need_iff, andB_t, andB_f, orB_t, orB_f, notB_t, notB_f, leI_t, leI_f, ltI_t, ltI_f, eqI_t, eqI_f, leN_t, leN_f, eqN_t, eqN_f, eqS_t, eqS_f, eqB_t, eqB_f, catOk_t, leC_t] using g
        rw [eF, if_pos]
        rcases rc with ⟨a1, a2, _⟩ | ⟨i, x, b1, _⟩
        · exact .inr a2
        · omega
      have g2 : ¬ id = 2 := by simpa only [br_iff, need_iff, andB_t, andB_f, orB_t, orB_f, notB_t, notB_f, leI_t, leI_f, ltI_t, ltI_f, eqI_t, eqI_f, leN_t, leN_f, eqN_t, eqN_f, eqS_t, eqS_f, eqB_t, eqB_f, catOk_t, leC_t] using g2
      rcases rc with ⟨a1, a2, a3, a4 | a4⟩ | ⟨i, x, b1, b2, b3, b4, b5, b6, b7, b8, b9, b10, b11⟩
      · rw [a4.2] at gd; cases gd
      · exact absurd a4.1 g2
      rw [b8] at gd
      have gd := of_decide_eq_false gd
      rw [if_neg (by omega), b6, b5] at eF
      rw [quoI_i64 (by omega) hid (by omega)]
      refine ⟨l, rfl, by omega, ?_⟩
      rw [b2, ndL b4, need_tt, kdL b4, need_tt]
      refine ⟨x.id, x.label, x.line.raw, x.line.text, strV x.line.ready, x.text, x.opens, x.gone, by rw [windowV_row b3]; rfl, ?_⟩
      rw [br_iff]; refine ⟨fun g => f (r := (⟨nx, f0, l⟩, 22)) (by rw [eF, if_pos (by simpa only [br_iff, need_iff, andB_t, andB_f, orB_t, orB_f, notB_t, notB_f, leI_t, leI_f, ltI_t, ltI_f, eqI_t, eqI_f, leN_t, leN_f, eqN_t, eqN_f, eqS_t, eqS_f, eqB_t, eqB_f, catOk_t, leC_t] using g)]), fun g => ?_⟩
      have g : x.opens < 9007199254740991 := by simpa only [br_iff, need_iff, andB_t, andB_f, orB_t, orB_f, notB_t, notB_f, leI_t, leI_f, ltI_t, ltI_f, eqI_t, eqI_f, leN_t, leN_f, eqN_t, eqN_f, eqS_t, eqS_f, eqB_t, eqB_f, catOk_t, leC_t] using g
      have hx := (soundW_iff x).1 (hR.sound x (List.mem_of_getElem? b3))
      rw [if_neg (by omega)] at eF
      refine ⟨l, i, x.line.ready, rfl, rfl, b4, by omega, rfl, ?_⟩
      rw [addI_i64 (by omega) (by omega)]
      exact f (r := (⟨nx, f0, l.set i { x with opens := x.opens + 1 }⟩, 0)) (by rw [eF]; unfold setW; rw [Int.toNat_natCast])
    have v1 : ¬ (0 ≤ p.window ∧ (wAt l p.window).gone = true) → rop_vc_1 nx f0 (windowV l) id m K := by
      intro c1
      unfold rop_vc_1
      refine ⟨hm1, hm2, by omega, ?_⟩
      rw [br_iff]; refine ⟨fun g => f (r := (⟨nx, f0, l⟩, (permF m).2)) (by rw [eF, if_neg c1, if_pos (by simpa only [br_iff, need_iff, andB_t, andB_f, orB_t, orB_f, notB_t, notB_f, leI_t, leI_f, ltI_t, ltI_f, eqI_t, eqI_f, leN_t, leN_f, eqN_t, eqN_f, eqS_t, eqS_f, eqB_t, eqB_f, catOk_t, leC_t] using g)]), fun g2 => ?_⟩
      have g2 : (permF m).2 = 0 := by simpa only [br_iff, need_iff, andB_t, andB_f, orB_t, orB_f, notB_t, notB_f, leI_t, leI_f, ltI_t, ltI_f, eqI_t, eqI_f, leN_t, leN_f, eqN_t, eqN_f, eqS_t, eqS_f, eqB_t, eqB_f, catOk_t, leC_t] using g2
      rw [br_iff]; refine ⟨fun gd => ?_, fun gd => v2 c1 g2 (fun h => by rw [r2.2 h.1] at gd; cases gd)⟩
      rw [br_iff]; refine ⟨fun g => f (r := (⟨nx, f0, l⟩, 10)) (by rw [eF, if_neg c1, if_neg (by simp [g2]), if_pos ⟨r2.1 gd, by simpa only [br_iff, need_iff, andB_t, andB_f, orB_t, orB_f, notB_t, notB_f, leI_t, leI_f, ltI_t, ltI_f, eqI_t, eqI_f, leN_t, leN_f, eqN_t, eqN_f, eqS_t, eqS_f, eqB_t, eqB_f, catOk_t, leC_t] using g⟩]), fun g => v2 c1 g2 (by simp only [br_iff, need_iff, andB_t, andB_f, orB_t, orB_f, notB_t, notB_f, leI_t, leI_f, ltI_t, ltI_f, eqI_t, eqI_f, leN_t, leN_f, eqN_t, eqN_f, eqS_t, eqS_f, eqB_t, eqB_f, catOk_t, leC_t] at g; omega)⟩
    rw [br_iff]; refine ⟨fun g16 => ?_, fun g16 => v1 ?_⟩
    · have g16 : 16 ≤ id := by simpa only [br_iff, need_iff, andB_t, andB_f, orB_t, orB_f, notB_t, notB_f, leI_t, leI_f, ltI_t, ltI_f, eqI_t, eqI_f, leN_t, leN_f, eqN_t, eqN_f, eqS_t, eqS_f, eqB_t, eqB_f, catOk_t, leC_t] using g16
      rcases rc with ⟨a1, a2, a3, _⟩ | ⟨i, x, b1, b2, b3, b4, b5, b6, b7, b8, b9, b10, b11⟩
      · omega
      refine ⟨l, rfl, by omega, ?_⟩
      rw [quoI_i64 (by omega) hid (by omega), b11]
      rw [b6, b5] at v1 eF
      rw [br_iff]; refine ⟨fun g => f (r := (⟨nx, f0, l⟩, 8)) (by rw [eF, if_pos ⟨by omega, by simpa [notB] using g⟩]), fun g => v1 (by simp [notB] at g; simp [g])⟩
    · have g16 : id < 16 := by simpa only [br_iff, need_iff, andB_t, andB_f, orB_t, orB_f, notB_t, notB_f, leI_t, leI_f, ltI_t, ltI_f, eqI_t, eqI_f, leN_t, leN_f, eqN_t, eqN_f, eqS_t, eqS_f, eqB_t, eqB_f, catOk_t, leC_t] using g16
      rcases rc with ⟨a1, a2, a3, _⟩ | ⟨i, x, b1, _⟩
      · omega
      · omega
  · exact h.elim
theorem rre_con {n : Nat} (hn : 4 ≤ n) : ConOk (evalF Tryz.prog cfgN n) 25 wreadCon := by
  intro vs bs K h
  unfold wreadCon at h
  split at h
  · rename_i nx f0 xs id off cnt
    obtain ⟨l, rfl, hRb, hid, hK⟩ := h
    have hR := (rightW_iff _).1 hRb
    have hb := right_small hR
    have hlen := hb.1
    dsimp only at hlen
    refine run_of (lp := lpOf []) (by omega) (ct := ctOf [(51, exCon), (54, dirCon), (56, tenCon), (55, pieceCon), (47, idxCon), (57, readCon), (49, withCon)]) (fun k hk => ctOf_ok (ctOf_cons (rx_con (by omega)) (ctOf_cons (rd2_con (by omega)) (ctOf_cons (rten_con (by omega)) (ctOf_cons (pc_con (by omega)) (ctOf_cons (ra_con (by omega)) (ctOf_cons (rrd_con (by omega)) (ctOf_cons (wth_con (by omega)) (ctOf_nil _))))))))) ?_
    rw [rre_vc]
    have hfo := right_focus hR
    dsimp only at hfo
    have f : ∀ {r}, readW ⟨nx, f0, l⟩ id off cnt = r → K (.tup [.agg [.int .i64 r.1.next, .int .i64 r.1.focus, .lst (windowV r.1.l)], .str r.2.1, .bool r.2.2.1, .int .i64 r.2.2.2]) [] := fun h => by subst h; exact hK
    refine ⟨l, rfl, by omega, hid, ?_⟩
    rw [br_iff]; refine ⟨fun g => ?_, fun g => ?_⟩
    · have hp := rexB_none (l := l) (id := id) (by simpa [notB] using g)
      exact f (r := (⟨nx, f0, l⟩, [], false, 8)) (by unfold readW; simp only [hp])
    obtain ⟨p, hp⟩ := rexB_some (l := l) (id := id) (by simpa [notB] using g)
    obtain ⟨r1, r2, r3, r4, rc⟩ := file_x hp
    have eF : readW ⟨nx, f0, l⟩ id off cnt = if 2147483648 ≤ p.mode then (⟨nx, f0, l⟩, [], false, 10)
        else if off < 0 ∨ cnt < 0 then (⟨nx, f0, l⟩, [], false, 1)
        else if p.file = 1 then
          if (readF (wAt l p.window).line (min cnt 65536)).2.2 = true then (⟨nx, f0, l⟩, [], !(wAt l p.window).gone, 0)
          else (setW ⟨nx, f0, l⟩ p.window { wAt l p.window with line := (readF (wAt l p.window).line (min cnt 65536)).1 }, (readF (wAt l p.window).line (min cnt 65536)).2.1, false, 0)
        else (⟨nx, f0, l⟩, ((contF ⟨nx, f0, l⟩ p).drop off.toNat).take (min cnt 65536).toNat, false, 0) := by
      unfold readW; simp only [hp]
    rw [br_iff]; refine ⟨fun g => f (r := (⟨nx, f0, l⟩, [], false, 10)) (by rw [eF, if_pos (r2.1 g)]), fun g1 => ?_⟩
    rw [if_neg (fun h => by rw [r2.2 h] at g1; cases g1)] at eF
    rw [br_iff]; refine ⟨fun g => f (r := (⟨nx, f0, l⟩, [], false, 1)) (by rw [eF, if_pos (.inl (by simpa only [br_iff, need_iff, andB_t, andB_f, orB_t, orB_f, notB_t, notB_f, leI_t, leI_f, ltI_t, ltI_f, eqI_t, eqI_f, leN_t, leN_f, eqN_t, eqN_f, eqS_t, eqS_f, eqB_t, eqB_f, catOk_t, leC_t] using g))]), fun g2 => ?_⟩
    have g2 : 0 ≤ off := by simpa only [br_iff, need_iff, andB_t, andB_f, orB_t, orB_f, notB_t, notB_f, leI_t, leI_f, ltI_t, ltI_f, eqI_t, eqI_f, leN_t, leN_f, eqN_t, eqN_f, eqS_t, eqS_f, eqB_t, eqB_f, catOk_t, leC_t] using g2
    rw [br_iff]; refine ⟨fun g => f (r := (⟨nx, f0, l⟩, [], false, 1)) (by rw [eF, if_pos (.inr (by simpa only [br_iff, need_iff, andB_t, andB_f, orB_t, orB_f, notB_t, notB_f, leI_t, leI_f, ltI_t, ltI_f, eqI_t, eqI_f, leN_t, leN_f, eqN_t, eqN_f, eqS_t, eqS_f, eqB_t, eqB_f, catOk_t, leC_t] using g))]), fun g3 => ?_⟩
    have g3 : 0 ≤ cnt := by simpa only [br_iff, need_iff, andB_t, andB_f, orB_t, orB_f, notB_t, notB_f, leI_t, leI_f, ltI_t, ltI_f, eqI_t, eqI_f, leN_t, leN_f, eqN_t, eqN_f, eqS_t, eqS_f, eqB_t, eqB_f, catOk_t, leC_t] using g3
    rw [if_neg (by omega)] at eF
    have hm : minI cnt 65536 = min cnt 65536 := rfl
    have hm0 : 0 ≤ min cnt 65536 := by omega
    rw [hm]
    rw [br_iff]; refine ⟨fun g => ?_, fun gi => ?_⟩
    · have g : id = 2 := by simpa only [br_iff, need_iff, andB_t, andB_f, orB_t, orB_f, notB_t, notB_f, leI_t, leI_f, ltI_t, ltI_f, eqI_t, eqI_f, leN_t, leN_f, eqN_t, eqN_f, eqS_t, eqS_f, eqB_t, eqB_f, catOk_t, leC_t] using g
      have hf : p.file = 0 := by
        rcases rc with ⟨a1, a2, _⟩ | ⟨i, x, b1, _⟩
        · exact a2
        · omega
      rw [if_neg (by omega)] at eF
      have ec : contF ⟨nx, f0, l⟩ p = textN 10 f0 := by unfold contF; rw [if_pos (by omega)]
      rw [ec] at eF
      refine ⟨by omega, by omega, g2, hm0, f (r := (⟨nx, f0, l⟩, ((textN 10 f0).drop off.toNat).take (min cnt 65536).toNat, false, 0)) eF⟩
    have gi : ¬ id = 2 := by simpa only [br_iff, need_iff, andB_t, andB_f, orB_t, orB_f, notB_t, notB_f, leI_t, leI_f, ltI_t, ltI_f, eqI_t, eqI_f, leN_t, leN_f, eqN_t, eqN_f, eqS_t, eqS_f, eqB_t, eqB_f, catOk_t, leC_t] using gi
    rcases rc with ⟨a1, a2, a3, a4 | a4⟩ | ⟨i, x, b1, b2, b3, b4, b5, b6, b7, b8, b9, b10, b11⟩
    · rw [a4.2] at g1; cases g1
    · exact absurd a4.1 gi
    rw [b8] at g1
    have g1 := of_decide_eq_false g1
    have ec : contF ⟨nx, f0, l⟩ p = if id % 16 = 3 then x.label else if id % 16 = 4 then x.text else [] := by
      unfold contF; rw [if_neg (by omega), b7, b6, b5]
    rw [ec, b6, b5, b7] at eF
    rw [quoI_i64 (by omega) hid (by omega), tmod_pos (by omega)]
    refine ⟨l, rfl, by omega, ?_⟩
    rw [b2, ndL b4, need_tt, kdL b4, need_tt]
    refine ⟨x.id, x.label, x.line.raw, x.line.text, strV x.line.ready, x.text, x.opens, x.gone, by rw [windowV_row b3]; rfl, ?_⟩
    rw [br_iff]; refine ⟨fun g => ?_, fun q3 => ?_⟩
    · have g : id % 16 = 3 := by simpa only [br_iff, need_iff, andB_t, andB_f, orB_t, orB_f, notB_t, notB_f, leI_t, leI_f, ltI_t, ltI_f, eqI_t, eqI_f, leN_t, leN_f, eqN_t, eqN_f, eqS_t, eqS_f, eqB_t, eqB_f, catOk_t, leC_t] using g
      rw [if_neg (by omega), if_pos g] at eF
      exact ⟨g2, hm0, f (r := (⟨nx, f0, l⟩, (x.label.drop off.toNat).take (min cnt 65536).toNat, false, 0)) eF⟩
    have q3 : ¬ id % 16 = 3 := by simpa only [br_iff, need_iff, andB_t, andB_f, orB_t, orB_f, notB_t, notB_f, leI_t, leI_f, ltI_t, ltI_f, eqI_t, eqI_f, leN_t, leN_f, eqN_t, eqN_f, eqS_t, eqS_f, eqB_t, eqB_f, catOk_t, leC_t] using q3
    rw [if_neg q3] at eF
    rw [br_iff]; refine ⟨fun g => ?_, fun q4 => ?_⟩
    · have g : id % 16 = 4 := by simpa only [br_iff, need_iff, andB_t, andB_f, orB_t, orB_f, notB_t, notB_f, leI_t, leI_f, ltI_t, ltI_f, eqI_t, eqI_f, leN_t, leN_f, eqN_t, eqN_f, eqS_t, eqS_f, eqB_t, eqB_f, catOk_t, leC_t] using g
      rw [if_neg (by omega), if_pos g] at eF
      exact ⟨g2, hm0, f (r := (⟨nx, f0, l⟩, (x.text.drop off.toNat).take (min cnt 65536).toNat, false, 0)) eF⟩
    have q4 : ¬ id % 16 = 4 := by simpa only [br_iff, need_iff, andB_t, andB_f, orB_t, orB_f, notB_t, notB_f, leI_t, leI_f, ltI_t, ltI_f, eqI_t, eqI_f, leN_t, leN_f, eqN_t, eqN_f, eqS_t, eqS_f, eqB_t, eqB_f, catOk_t, leC_t] using q4
    rw [if_neg q4, List.drop_nil, List.take_nil] at eF
    rw [br_iff]; refine ⟨fun g => f (r := (⟨nx, f0, l⟩, [], false, 0)) (by have g : id % 16 = 2 := by simpa only [br_iff, need_iff, andB_t, andB_f, orB_t, orB_f, notB_t, notB_f, leI_t, leI_f, ltI_t, ltI_f, eqI_t, eqI_f, leN_t, leN_f, eqN_t, eqN_f, eqS_t, eqS_f, eqB_t, eqB_f, catOk_t, leC_t] using g
                                                                           rw [eF, if_neg (by omega)]), fun q2 => ?_⟩
    rw [br_iff]; refine ⟨fun g => f (r := (⟨nx, f0, l⟩, [], false, 0)) (by have g : id % 16 = 5 := by simpa only [br_iff, need_iff, andB_t, andB_f, orB_t, orB_f, notB_t, notB_f, leI_t, leI_f, ltI_t, ltI_f, eqI_t, eqI_f, leN_t, leN_f, eqN_t, eqN_f, eqS_t, eqS_f, eqB_t, eqB_f, catOk_t, leC_t] using g
                                                                           rw [eF, if_neg (by omega)]), fun q5 => ?_⟩
    have q2 : ¬ id % 16 = 2 := by simpa only [br_iff, need_iff, andB_t, andB_f, orB_t, orB_f, notB_t, notB_f, leI_t, leI_f, ltI_t, ltI_f, eqI_t, eqI_f, leN_t, leN_f, eqN_t, eqN_f, eqS_t, eqS_f, eqB_t, eqB_f, catOk_t, leC_t] using q2
    have q5 : ¬ id % 16 = 5 := by simpa only [br_iff, need_iff, andB_t, andB_f, orB_t, orB_f, notB_t, notB_f, leI_t, leI_f, ltI_t, ltI_f, eqI_t, eqI_f, leN_t, leN_f, eqN_t, eqN_f, eqS_t, eqS_f, eqB_t, eqB_f, catOk_t, leC_t] using q5
    rw [if_pos (by omega)] at eF
    have hx := sound_line (hR.sound x (List.mem_of_getElem? b3))
    refine ⟨x.line.ready, rfl, hx, ?_⟩
    rw [show (⟨x.line.raw, x.line.text, x.line.ready⟩ : Line) = x.line from rfl]
    rw [br_iff]; refine ⟨fun q => ?_, fun q => ?_⟩
    · rw [if_pos q] at eF
      exact f (r := (⟨nx, f0, l⟩, [], !x.gone, 0)) eF
    · rw [if_neg (by rw [q]; simp)] at eF
      refine ⟨l, i, (readF x.line (min cnt 65536)).1.ready, rfl, rfl, b4, by omega, rfl, ?_⟩
      exact f (r := (⟨nx, f0, l.set i { x with line := (readF x.line (min cnt 65536)).1 }⟩, (readF x.line (min cnt 65536)).2.1, false, 0)) (by rw [eF]; unfold setW; rw [Int.toNat_natCast])
  · exact h.elim
theorem rcs_con {n : Nat} (hn : 4 ≤ n) : ConOk (evalF Tryz.prog cfgN n) 27 closeCon := by
  intro vs bs K h
  unfold closeCon at h
  split at h
  · rename_i nx f0 xs id m
    obtain ⟨l, rfl, hRb, hid, hK⟩ := h
    have hR := (rightW_iff _).1 hRb
    have hb := right_small hR
    have hlen := hb.1
    dsimp only at hlen
    refine run_of (lp := lpOf []) (by omega) (ct := ctOf [(51, exCon), (54, dirCon), (47, idxCon), (49, withCon), (61, withoutCon)]) (fun k hk => ctOf_ok (ctOf_cons (rx_con (by omega)) (ctOf_cons (rd2_con (by omega)) (ctOf_cons (ra_con (by omega)) (ctOf_cons (wth_con (by omega)) (ctOf_cons (wto_con (by omega)) (ctOf_nil _))))))) ?_
    rw [rcs_vc]
    have f : ∀ {r}, closeW ⟨nx, f0, l⟩ id = r → K (.agg [.int .i64 r.next, .int .i64 r.focus, .lst (windowV r.l)]) [] := fun h => by subst h; exact hK
    have same : (∀ p, fileF l id = some p → p.window < 0 ∨ p.file = 0) → K (.agg [.int .i64 nx, .int .i64 f0, .lst (windowV l)]) [] := fun hp => f (r := ⟨nx, f0, l⟩) (by
      unfold closeW
      cases hq : fileF l id with
      | none => rfl
      | some p => exact if_pos (hp p hq))
    rw [br_iff]; refine ⟨fun g => same fun p hp => ?_, fun g16 => ?_⟩
    · have g : id < 16 := by simpa only [br_iff, need_iff, andB_t, andB_f, orB_t, orB_f, notB_t, notB_f, leI_t, leI_f, ltI_t, ltI_f, eqI_t, eqI_f, leN_t, leN_f, eqN_t, eqN_f, eqS_t, eqS_f, eqB_t, eqB_f, catOk_t, leC_t] using g
      obtain ⟨r1, r2, r3, r4, rc⟩ := file_x hp
      rcases rc with ⟨a1, _⟩ | ⟨i, x, b1, _⟩ <;> omega
    rw [br_iff]; refine ⟨fun g => same fun p hp => ?_, fun gd => ?_⟩
    · obtain ⟨r1, r2, r3, r4, rc⟩ := file_x hp
      rcases rc with ⟨a1, _⟩ | ⟨i, x, b1, b2, b3, b4, b5, b6, b7, b8, _⟩
      · omega
      · right; rw [b7]; rw [b8] at g; exact of_decide_eq_true g
    refine ⟨l, rfl, by omega, hid, ?_⟩
    rw [br_iff]; refine ⟨fun g => same fun p hp => ?_, fun g => ?_⟩
    · rw [rexB_none (l := l) (id := id) (by simpa [notB] using g)] at hp; cases hp
    obtain ⟨p, hp⟩ := rexB_some (l := l) (id := id) (by simpa [notB] using g)
    obtain ⟨r1, r2, r3, r4, rc⟩ := file_x hp
    have g16 : 16 ≤ id := by simpa only [br_iff, need_iff, andB_t, andB_f, orB_t, orB_f, notB_t, notB_f, leI_t, leI_f, ltI_t, ltI_f, eqI_t, eqI_f, leN_t, leN_f, eqN_t, eqN_f, eqS_t, eqS_f, eqB_t, eqB_f, catOk_t, leC_t] using g16
    rcases rc with ⟨a1, a2, a3, _⟩ | ⟨i, x, b1, b2, b3, b4, b5, b6, b7, b8, b9, b10, b11⟩
    · omega
    rw [b8] at gd
    have gd := of_decide_eq_false gd
    have eF : closeW ⟨nx, f0, l⟩ id = if max (x.opens - 1) 0 = 0 ∧ x.gone = true then ⟨nx, f0, l.eraseIdx i⟩ else ⟨nx, f0, l.set i { x with opens := max (x.opens - 1) 0 }⟩ := by
      unfold closeW
      simp only [hp]
      rw [if_neg (by omega), b6, b5]
      unfold delW setW
      rw [Int.toNat_natCast]
    have hx := (soundW_iff x).1 (hR.sound x (List.mem_of_getElem? b3))
    rw [quoI_i64 (by omega) hid (by omega)]
    refine ⟨l, rfl, by omega, ?_⟩
    rw [b2, ndL b4, need_tt, kdL b4, need_tt]
    refine ⟨x.id, x.label, x.line.raw, x.line.text, strV x.line.ready, x.text, x.opens, x.gone, by rw [windowV_row b3]; rfl, ?_⟩
    have ei : idxW l (quoI .i64 id 16) = Int.ofNat i := by rw [quoI_i64 (by omega) hid (by omega)]; exact b2
    have v3 : max (x.opens - 1) 0 = 0 → x.gone = true → rcs_vc_3 nx f0 (windowV l) id m K l := by
      intro c1 c2
      unfold rcs_vc_3
      exact ⟨l, i, rfl, ei, b4, by omega, f (r := ⟨nx, f0, l.eraseIdx i⟩) (by rw [eF, if_pos ⟨c1, c2⟩])⟩
    have v1 : 0 < x.opens → ¬ (max (x.opens - 1) 0 = 0 ∧ x.gone = true) → rcs_vc_1 nx f0 (windowV l) id m K l (strV x.line.ready) x.id x.label x.line.raw x.line.text x.text x.opens x.gone := by
      intro c0 c1
      unfold rcs_vc_1
      refine ⟨l, i, x.line.ready, rfl, ei, b4, by omega, rfl, ?_⟩
      rw [if_neg c1, show max (x.opens - 1) 0 = x.opens - 1 by omega] at eF
      rw [subI_i64 (by omega) (by omega)]
      exact f eF
    have v2 : ¬ 0 < x.opens → ¬ (max (x.opens - 1) 0 = 0 ∧ x.gone = true) → rcs_vc_2 nx f0 (windowV l) id m K l (strV x.line.ready) x.id x.label x.line.raw x.line.text x.text x.opens x.gone := by
      intro c0 c1
      unfold rcs_vc_2
      refine ⟨l, i, x.line.ready, rfl, ei, b4, by omega, rfl, ?_⟩
      rw [if_neg c1, show max (x.opens - 1) 0 = x.opens by omega] at eF
      exact f eF
    rw [br_iff]; refine ⟨fun g => ?_, fun g => ?_⟩
    · have g : 0 < x.opens := by simpa only [br_iff, need_iff, andB_t, andB_f, orB_t, orB_f, notB_t, notB_f, leI_t, leI_f, ltI_t, ltI_f, eqI_t, eqI_f, leN_t, leN_f, eqN_t, eqN_f, eqS_t, eqS_f, eqB_t, eqB_f, catOk_t, leC_t] using g
      rw [br_iff]; refine ⟨fun gg => ?_, fun gg => v1 g (by rw [gg]; simp)⟩
      rw [subI_i64 (by omega) (by omega)]
      rw [br_iff]; refine ⟨fun q => v3 (by have q : x.opens - 1 = 0 := by simpa only [br_iff, need_iff, andB_t, andB_f, orB_t, orB_f, notB_t, notB_f, leI_t, leI_f, ltI_t, ltI_f, eqI_t, eqI_f, leN_t, leN_f, eqN_t, eqN_f, eqS_t, eqS_f, eqB_t, eqB_f, catOk_t, leC_t] using q
                                           omega) gg, fun q => v1 g (by have q : ¬ x.opens - 1 = 0 := by simpa only [br_iff, need_iff, andB_t, andB_f, orB_t, orB_f, notB_t, notB_f, leI_t, leI_f, ltI_t, ltI_f, eqI_t, eqI_f, leN_t, leN_f, eqN_t, eqN_f, eqS_t, eqS_f, eqB_t, eqB_f, catOk_t, leC_t] using q
                                                                        omega)⟩
    · have g : ¬ 0 < x.opens := by simp only [br_iff, need_iff, andB_t, andB_f, orB_t, orB_f, notB_t, notB_f, leI_t, leI_f, ltI_t, ltI_f, eqI_t, eqI_f, leN_t, leN_f, eqN_t, eqN_f, eqS_t, eqS_f, eqB_t, eqB_f, catOk_t, leC_t] at g; omega
      rw [br_iff]; refine ⟨fun gg => ?_, fun gg => v2 g (by rw [gg]; simp)⟩
      rw [br_iff]; refine ⟨fun q => v3 (by omega) gg, fun q => v2 g (by have q : ¬ x.opens = 0 := by simpa only [br_iff, need_iff, andB_t, andB_f, orB_t, orB_f, notB_t, notB_f, leI_t, leI_f, ltI_t, ltI_f, eqI_t, eqI_f, leN_t, leN_f, eqN_t, eqN_f, eqS_t, eqS_f, eqB_t, eqB_f, catOk_t, leC_t] using q
                                                                        omega)⟩
  · exact h.elim
end Go.Proofs.YtdbbpibfejchfaaGreatDoor
namespace Go.Proofs.YtdbbpibfejchfaaGreatDoor
open Go.RowKit
set_option maxRecDepth 100000
set_option linter.unusedVariables false
set_option linter.unusedSimpArgs false
def rdI (c : rddC) (x0 x : rddX) (m : Nat) : Prop := (c.fo = true → ∃ (L : List Window) (k : Nat), c.xs = windowV L ∧ x = ⟨lastF (L.take k), (k : Int)⟩ ∧ k + m = L.length) ∧ (c.fo = false → x = x0)
theorem rdI_t {n z0 z1 : Int} {L : List Window} {x0 x : rddX} {m : Nat} : rdI ⟨n, z0, z1, windowV L, true⟩ x0 x m ↔ ∃ k : Nat, x = ⟨lastF (L.take k), (k : Int)⟩ ∧ k + m = L.length := by
  unfold rdI
  dsimp only
  constructor
  · rintro ⟨h, _⟩
    obtain ⟨L', k, e, h1, h2⟩ := h rfl
    obtain rfl := windowV_inj.1 e
    exact ⟨k, h1, h2⟩
  · rintro ⟨k, h1, h2⟩
    exact ⟨fun _ => ⟨L, k, rfl, h1, h2⟩, fun h => by cases h⟩
theorem rdI_f {n z0 z1 : Int} {xs : List (List V)} {x0 x : rddX} {m : Nat} : rdI ⟨n, z0, z1, xs, false⟩ x0 x m ↔ x = x0 := by
  unfold rdI
  dsimp only
  exact ⟨fun h => h.2 rfl, fun h => ⟨fun h => (by cases h), fun _ => h⟩⟩
theorem rde_con {n : Nat} (hn : 2 ≤ n) : ConOk (evalF Tryz.prog cfgN n) 85 rdelCon := by
  intro vs bs K h
  unfold rdelCon at h
  split at h
  · rename_i nx f0 xs i
    obtain ⟨l, j, rfl, rfl, hj, hb, hK⟩ := h
    refine run_of (lp := lpOf [(10, rddL rdI)]) (by omega) (ct := ctOf [(49, withCon), (61, withoutCon)]) (fun k hk => ctOf_ok (ctOf_cons (wth_con (by omega)) (ctOf_cons (wto_con (by omega)) (ctOf_nil _)))) ?_
    rw [rde_vc]
    have gx := List.getElem?_eq_getElem hj
    generalize l[j] = x at gx
    have eF : deletedF ⟨nx, f0, l⟩ (j : Int) = if f0 ≠ x.id then (if 0 < x.opens then ⟨nx, f0, l.set j { x with gone := true }⟩ else ⟨nx, f0, l.eraseIdx j⟩)
        else ⟨nx, lastF (if 0 < x.opens then l.set j { x with gone := true } else l.eraseIdx j), if 0 < x.opens then l.set j { x with gone := true } else l.eraseIdx j⟩ := by
      unfold deletedF setW delW
      simp only [wAt_nat gx, Int.toNat_natCast]
      by_cases h1 : f0 ≠ x.id
      · rw [if_pos h1, if_pos h1]
      · rw [if_neg h1, if_neg h1]
        by_cases h2 : 0 < x.opens
        · simp only [if_pos h2]
        · simp only [if_neg h2]
    have f : ∀ {r : Windows}, deletedF ⟨nx, f0, l⟩ (j : Int) = r → K (.agg [.int .i64 r.next, .int .i64 r.focus, .lst (windowV r.l)]) [] := fun h => by subst h; exact hK
    rw [ndL hj, need_tt, kdL hj, need_tt]
    refine ⟨x.id, x.label, x.line.raw, x.line.text, strV x.line.ready, x.text, x.opens, x.gone, by rw [windowV_row gx]; rfl, ?_⟩
    rw [br_iff]; refine ⟨fun ho => ?_, fun ho => ?_⟩
    · have ho : 0 < x.opens := by simpa only [br_iff, need_iff, andB_t, andB_f, orB_t, orB_f, notB_t, notB_f, leI_t, leI_f, ltI_t, ltI_f, eqI_t, eqI_f, leN_t, leN_f, eqN_t, eqN_f, eqS_t, eqS_f, eqB_t, eqB_f, catOk_t, leC_t] using ho
      simp only [if_pos ho] at eF
      have hL : (l.set j { x with gone := true }).length ≤ 1000 := by rw [List.length_set]; exact hb
      refine ⟨l, j, x.line.ready, rfl, rfl, hj, by omega, rfl, ?_⟩
      rw [show (⟨x.id, x.label, ⟨x.line.raw, x.line.text, x.line.ready⟩, x.text, x.opens, true⟩ : Window) = { x with gone := true } from rfl]
      generalize l.set j { x with gone := true } = L at eF hL ⊢
      rw [br_iff]; refine ⟨fun g => ?_, fun g => ?_⟩
      · simp only [g, br_tt]
        rw [if_neg (by have g : f0 = x.id := by simpa only [br_iff, need_iff, andB_t, andB_f, orB_t, orB_f, notB_t, notB_f, leI_t, leI_f, ltI_t, ltI_f, eqI_t, eqI_f, leN_t, leN_f, eqN_t, eqN_f, eqS_t, eqS_f, eqB_t, eqB_f, catOk_t, leC_t] using g
                       simp [g])] at eF
        refine ⟨⟨L.length, by omega, rdI_t.2 ⟨0, rfl, by omega⟩⟩, ?_⟩
        intro x9 m hI
        obtain ⟨k, rfl, hk⟩ := rdI_t.1 hI
        dsimp only
        rw [windowV_lenL]
        rw [br_iff]; refine ⟨fun q => ?_, fun q => ?_⟩
        · have hlt : k < L.length := by simp only [br_iff, need_iff, andB_t, andB_f, orB_t, orB_f, notB_t, notB_f, leI_t, leI_f, ltI_t, ltI_f, eqI_t, eqI_f, leN_t, leN_f, eqN_t, eqN_f, eqS_t, eqS_f, eqB_t, eqB_f, catOk_t, leC_t, Int.ofNat_eq_natCast] at q; omega
          have gy := List.getElem?_eq_getElem hlt
          generalize L[k] = y at gy
          have ek : addI .i64 (k : Int) 1 = ((k + 1 : Nat) : Int) := by rw [addI_i64 (by omega) (by omega)]; rfl
          have hs := lastF_step gy
          have n1 : andB (leI 0 (k : Int)) (ltI (k : Int) (L.length : Int)) = true := by simp only [br_iff, need_iff, andB_t, andB_f, orB_t, orB_f, notB_t, notB_f, leI_t, leI_f, ltI_t, ltI_f, eqI_t, eqI_f, leN_t, leN_f, eqN_t, eqN_f, eqS_t, eqS_f, eqB_t, eqB_f, catOk_t, leC_t]; omega
          rw [n1, need_tt, kdL hlt, need_tt]
          refine ⟨y.gone, by rw [windowV_row gy]; rfl, ?_⟩
          rw [ek, br_iff]
          refine ⟨fun w => ?_, fun w => ?_⟩
          · simp only [notB, Bool.not_eq_true'] at w
            rw [need_tt, need_tt]
            refine ⟨y.id, by rw [windowV_row gy]; rfl, by trivial, m - 1, by omega, rdI_t.2 ⟨k + 1, ?_, by omega⟩⟩
            rw [hs, w]; rfl
          · simp only [notB, Bool.not_eq_false'] at w
            refine ⟨by trivial, m - 1, by omega, rdI_t.2 ⟨k + 1, ?_, by omega⟩⟩
            rw [hs, w]; rfl
        · have hk2 : k = L.length := by simp only [br_iff, need_iff, andB_t, andB_f, orB_t, orB_f, notB_t, notB_f, leI_t, leI_f, ltI_t, ltI_f, eqI_t, eqI_f, leN_t, leN_f, eqN_t, eqN_f, eqS_t, eqS_f, eqB_t, eqB_f, catOk_t, leC_t, Int.ofNat_eq_natCast] at q; omega
          rw [hk2, List.take_length]
          exact f eF
      · simp only [g, br_ff]
        rw [if_pos (by simp only [br_iff, need_iff, andB_t, andB_f, orB_t, orB_f, notB_t, notB_f, leI_t, leI_f, ltI_t, ltI_f, eqI_t, eqI_f, leN_t, leN_f, eqN_t, eqN_f, eqS_t, eqS_f, eqB_t, eqB_f, catOk_t, leC_t] at g; simpa using g)] at eF
        refine ⟨⟨0, by omega, rdI_f.2 rfl⟩, ?_⟩
        intro x9 m hI
        obtain rfl := rdI_f.1 hI
        dsimp only
        rw [br_iff]
        exact ⟨fun _ => f eF, fun _ => f eF⟩
    · have ho : ¬ 0 < x.opens := by simp only [br_iff, need_iff, andB_t, andB_f, orB_t, orB_f, notB_t, notB_f, leI_t, leI_f, ltI_t, ltI_f, eqI_t, eqI_f, leN_t, leN_f, eqN_t, eqN_f, eqS_t, eqS_f, eqB_t, eqB_f, catOk_t, leC_t] at ho; omega
      simp only [if_neg ho] at eF
      have hL : (l.eraseIdx j).length ≤ 1000 := by have := (List.eraseIdx_sublist l j).length_le; omega
      refine ⟨l, j, rfl, rfl, hj, by omega, ?_⟩
      generalize l.eraseIdx j = L at eF hL ⊢
      rw [br_iff]; refine ⟨fun g => ?_, fun g => ?_⟩
      · simp only [g, br_tt]
        rw [if_neg (by have g : f0 = x.id := by simpa only [br_iff, need_iff, andB_t, andB_f, orB_t, orB_f, notB_t, notB_f, leI_t, leI_f, ltI_t, ltI_f, eqI_t, eqI_f, leN_t, leN_f, eqN_t, eqN_f, eqS_t, eqS_f, eqB_t, eqB_f, catOk_t, leC_t] using g
                       simp [g])] at eF
        refine ⟨⟨L.length, by omega, rdI_t.2 ⟨0, rfl, by omega⟩⟩, ?_⟩
        intro x9 m hI
        obtain ⟨k, rfl, hk⟩ := rdI_t.1 hI
        dsimp only
        rw [windowV_lenL]
        rw [br_iff]; refine ⟨fun q => ?_, fun q => ?_⟩
        · have hlt : k < L.length := by simp only [br_iff, need_iff, andB_t, andB_f, orB_t, orB_f, notB_t, notB_f, leI_t, leI_f, ltI_t, ltI_f, eqI_t, eqI_f, leN_t, leN_f, eqN_t, eqN_f, eqS_t, eqS_f, eqB_t, eqB_f, catOk_t, leC_t, Int.ofNat_eq_natCast] at q; omega
          have gy := List.getElem?_eq_getElem hlt
          generalize L[k] = y at gy
          have ek : addI .i64 (k : Int) 1 = ((k + 1 : Nat) : Int) := by rw [addI_i64 (by omega) (by omega)]; rfl
          have hs := lastF_step gy
          have n1 : andB (leI 0 (k : Int)) (ltI (k : Int) (L.length : Int)) = true := by simp only [br_iff, need_iff, andB_t, andB_f, orB_t, orB_f, notB_t, notB_f, leI_t, leI_f, ltI_t, ltI_f, eqI_t, eqI_f, leN_t, leN_f, eqN_t, eqN_f, eqS_t, eqS_f, eqB_t, eqB_f, catOk_t, leC_t]; omega
          rw [n1, need_tt, kdL hlt, need_tt]
          refine ⟨y.gone, by rw [windowV_row gy]; rfl, ?_⟩
          rw [ek, br_iff]
          refine ⟨fun w => ?_, fun w => ?_⟩
          · simp only [notB, Bool.not_eq_true'] at w
            rw [need_tt, need_tt]
            refine ⟨y.id, by rw [windowV_row gy]; rfl, by trivial, m - 1, by omega, rdI_t.2 ⟨k + 1, ?_, by omega⟩⟩
            rw [hs, w]; rfl
          · simp only [notB, Bool.not_eq_false'] at w
            refine ⟨by trivial, m - 1, by omega, rdI_t.2 ⟨k + 1, ?_, by omega⟩⟩
            rw [hs, w]; rfl
        · have hk2 : k = L.length := by simp only [br_iff, need_iff, andB_t, andB_f, orB_t, orB_f, notB_t, notB_f, leI_t, leI_f, ltI_t, ltI_f, eqI_t, eqI_f, leN_t, leN_f, eqN_t, eqN_f, eqS_t, eqS_f, eqB_t, eqB_f, catOk_t, leC_t, Int.ofNat_eq_natCast] at q; omega
          rw [hk2, List.take_length]
          exact f eF
      · simp only [g, br_ff]
        rw [if_pos (by simp only [br_iff, need_iff, andB_t, andB_f, orB_t, orB_f, notB_t, notB_f, leI_t, leI_f, ltI_t, ltI_f, eqI_t, eqI_f, leN_t, leN_f, eqN_t, eqN_f, eqS_t, eqS_f, eqB_t, eqB_f, catOk_t, leC_t] at g; simpa using g)] at eF
        refine ⟨⟨0, by omega, rdI_f.2 rfl⟩, ?_⟩
        intro x9 m hI
        obtain rfl := rdI_f.1 hI
        dsimp only
        rw [br_iff]
        exact ⟨fun _ => f eF, fun _ => f eF⟩
  · exact h.elim
theorem rct_con {n : Nat} (hn : 3 ≤ n) : ConOk (evalF Tryz.prog cfgN n) 60 rctlCon := by
  intro vs bs K h
  unfold rctlCon at h
  split at h
  · rename_i nx f0 xs i k c
    obtain ⟨l, j, rfl, rfl, hj, hRb, hk, hK⟩ := h
    have hR := (rightW_iff _).1 hRb
    have hb := right_small hR
    have hlen := hb.1
    dsimp only at hlen
    refine run_of (lp := lpOf []) (by omega) (ct := ctOf [(84, setRawCon), (49, withCon), (85, rdelCon)]) (fun k hk => ctOf_ok (ctOf_cons (rsr_con (by omega)) (ctOf_cons (wth_con (by omega)) (ctOf_cons (rde_con (by omega)) (ctOf_nil _))))) ?_
    rw [rct_vc]
    have gx := List.getElem?_eq_getElem hj
    generalize l[j] = x at gx
    have hx := sound_line (hR.sound x (List.mem_of_getElem? gx))
    have eF : controlF ⟨nx, f0, l⟩ (j : Int) k c = if k = 2 ∧ c = [114, 97, 119, 111, 110] then (⟨nx, f0, l.set j { x with line := setRawF x.line true }⟩, 0)
        else if k = 2 ∧ c = [114, 97, 119, 111, 102, 102] then (⟨nx, f0, l.set j { x with line := setRawF x.line false }⟩, 0)
        else if k ≠ 2 ∧ c = [102, 111, 99, 117, 115] then (⟨nx, x.id, l⟩, 0)
        else if k ≠ 2 ∧ c = [100, 101, 108, 101, 116, 101] then (deletedF ⟨nx, f0, l⟩ (j : Int), 0)
        else (⟨nx, f0, l⟩, 54) := by
      unfold controlF setW
      simp only [wAt_nat gx, Int.toNat_natCast]
    have f : ∀ {r : Windows × Int}, controlF ⟨nx, f0, l⟩ (j : Int) k c = r → K (.tup [.agg [.int .i64 r.1.next, .int .i64 r.1.focus, .lst (windowV r.1.l)], .int .i64 r.2]) [] := fun h => by subst h; exact hK
    have v2 : ∀ v : Bool, eqS c (ByteArray.mk #[114, 97, 119, 111, 110]).data.toList = v → controlF ⟨nx, f0, l⟩ (j : Int) k c = (⟨nx, f0, l.set j { x with line := setRawF x.line v }⟩, 0) → rct_vc_2 nx f0 (windowV l) (j : Int) k c K (strV x.line.ready) x.line.raw x.line.text x.id x.label x.text x.opens x.gone := by
      intro v hv he
      unfold rct_vc_2
      rw [hv]
      exact ⟨x.line.ready, rfl, hx, l, j, (setRawF x.line v).ready, rfl, rfl, hj, by omega, rfl, f he⟩
    have v3 : ¬ (k = 2 ∧ c = [114, 97, 119, 111, 110]) → ¬ (k = 2 ∧ c = [114, 97, 119, 111, 102, 102]) → ¬ (k ≠ 2 ∧ c = [102, 111, 99, 117, 115]) → rct_vc_3 nx f0 (windowV l) (j : Int) k c K := by
      intro c1 c2 c3
      rw [if_neg c1, if_neg c2, if_neg c3] at eF
      unfold rct_vc_3
      unfold ctlK at hk
      rw [br_iff]; refine ⟨fun g => ?_, fun g => f (by rw [eF, if_neg (by simp only [br_iff, need_iff, andB_t, andB_f, orB_t, orB_f, notB_t, notB_f, leI_t, leI_f, ltI_t, ltI_f, eqI_t, eqI_f, leN_t, leN_f, eqN_t, eqN_f, eqS_t, eqS_f, eqB_t, eqB_f, catOk_t, leC_t] at g; omega)])⟩
      have g : k = 5 := by simpa only [br_iff, need_iff, andB_t, andB_f, orB_t, orB_f, notB_t, notB_f, leI_t, leI_f, ltI_t, ltI_f, eqI_t, eqI_f, leN_t, leN_f, eqN_t, eqN_f, eqS_t, eqS_f, eqB_t, eqB_f, catOk_t, leC_t] using g
      rw [br_iff]; refine ⟨fun q => ?_, fun q => f (by rw [eF, if_neg (by simp only [br_iff, need_iff, andB_t, andB_f, orB_t, orB_f, notB_t, notB_f, leI_t, leI_f, ltI_t, ltI_f, eqI_t, eqI_f, leN_t, leN_f, eqN_t, eqN_f, eqS_t, eqS_f, eqB_t, eqB_f, catOk_t, leC_t] at q; simp [q])])⟩
      have q : c = [100, 101, 108, 101, 116, 101] := by simpa only [br_iff, need_iff, andB_t, andB_f, orB_t, orB_f, notB_t, notB_f, leI_t, leI_f, ltI_t, ltI_f, eqI_t, eqI_f, leN_t, leN_f, eqN_t, eqN_f, eqS_t, eqS_f, eqB_t, eqB_f, catOk_t, leC_t] using q
      rw [if_pos ⟨by omega, q⟩] at eF
      exact ⟨l, j, rfl, rfl, hj, by omega, f eF⟩
    have v1 : ¬ (k = 2 ∧ c = [114, 97, 119, 111, 110]) → ¬ (k = 2 ∧ c = [114, 97, 119, 111, 102, 102]) → rct_vc_1 nx f0 (windowV l) (j : Int) k c K x.id := by
      intro c1 c2
      unfold rct_vc_1
      unfold ctlK at hk
      rw [br_iff]; refine ⟨fun g => ?_, fun g => v3 c1 c2 (by simp only [br_iff, need_iff, andB_t, andB_f, orB_t, orB_f, notB_t, notB_f, leI_t, leI_f, ltI_t, ltI_f, eqI_t, eqI_f, leN_t, leN_f, eqN_t, eqN_f, eqS_t, eqS_f, eqB_t, eqB_f, catOk_t, leC_t] at g; omega)⟩
      have g : k = 5 := by simpa only [br_iff, need_iff, andB_t, andB_f, orB_t, orB_f, notB_t, notB_f, leI_t, leI_f, ltI_t, ltI_f, eqI_t, eqI_f, leN_t, leN_f, eqN_t, eqN_f, eqS_t, eqS_f, eqB_t, eqB_f, catOk_t, leC_t] using g
      rw [br_iff]; refine ⟨fun q => ?_, fun q => v3 c1 c2 (by simp only [br_iff, need_iff, andB_t, andB_f, orB_t, orB_f, notB_t, notB_f, leI_t, leI_f, ltI_t, ltI_f, eqI_t, eqI_f, leN_t, leN_f, eqN_t, eqN_f, eqS_t, eqS_f, eqB_t, eqB_f, catOk_t, leC_t] at q; simp [q])⟩
      have q : c = [102, 111, 99, 117, 115] := by simpa only [br_iff, need_iff, andB_t, andB_f, orB_t, orB_f, notB_t, notB_f, leI_t, leI_f, ltI_t, ltI_f, eqI_t, eqI_f, leN_t, leN_f, eqN_t, eqN_f, eqS_t, eqS_f, eqB_t, eqB_f, catOk_t, leC_t] using q
      exact f (r := (⟨nx, x.id, l⟩, 0)) (by rw [eF, if_neg c1, if_neg c2, if_pos ⟨by omega, q⟩])
    rw [ndL hj, need_tt, kdL hj, need_tt]
    refine ⟨x.id, x.label, x.line.raw, x.line.text, strV x.line.ready, x.text, x.opens, x.gone, by rw [windowV_row gx]; rfl, ?_⟩
    rw [br_iff]; refine ⟨fun g => ?_, fun g => v1 (by simp only [br_iff, need_iff, andB_t, andB_f, orB_t, orB_f, notB_t, notB_f, leI_t, leI_f, ltI_t, ltI_f, eqI_t, eqI_f, leN_t, leN_f, eqN_t, eqN_f, eqS_t, eqS_f, eqB_t, eqB_f, catOk_t, leC_t] at g; simp [g]) (by simp only [br_iff, need_iff, andB_t, andB_f, orB_t, orB_f, notB_t, notB_f, leI_t, leI_f, ltI_t, ltI_f, eqI_t, eqI_f, leN_t, leN_f, eqN_t, eqN_f, eqS_t, eqS_f, eqB_t, eqB_f, catOk_t, leC_t] at g; simp [g])⟩
    have g : k = 2 := by simpa only [br_iff, need_iff, andB_t, andB_f, orB_t, orB_f, notB_t, notB_f, leI_t, leI_f, ltI_t, ltI_f, eqI_t, eqI_f, leN_t, leN_f, eqN_t, eqN_f, eqS_t, eqS_f, eqB_t, eqB_f, catOk_t, leC_t] using g
    rw [br_iff]; refine ⟨fun q => ?_, fun q => ?_⟩
    · have q1 : c = [114, 97, 119, 111, 110] := by simpa only [br_iff, need_iff, andB_t, andB_f, orB_t, orB_f, notB_t, notB_f, leI_t, leI_f, ltI_t, ltI_f, eqI_t, eqI_f, leN_t, leN_f, eqN_t, eqN_f, eqS_t, eqS_f, eqB_t, eqB_f, catOk_t, leC_t] using q
      exact v2 true q (by rw [eF, if_pos ⟨g, q1⟩])
    have q1 : ¬ c = [114, 97, 119, 111, 110] := by simpa only [br_iff, need_iff, andB_t, andB_f, orB_t, orB_f, notB_t, notB_f, leI_t, leI_f, ltI_t, ltI_f, eqI_t, eqI_f, leN_t, leN_f, eqN_t, eqN_f, eqS_t, eqS_f, eqB_t, eqB_f, catOk_t, leC_t] using q
    rw [br_iff]; refine ⟨fun q2 => ?_, fun q2 => v1 (by simp [q1]) (by simp only [br_iff, need_iff, andB_t, andB_f, orB_t, orB_f, notB_t, notB_f, leI_t, leI_f, ltI_t, ltI_f, eqI_t, eqI_f, leN_t, leN_f, eqN_t, eqN_f, eqS_t, eqS_f, eqB_t, eqB_f, catOk_t, leC_t] at q2; simp [q2])⟩
    have q3 : c = [114, 97, 119, 111, 102, 102] := by simpa only [br_iff, need_iff, andB_t, andB_f, orB_t, orB_f, notB_t, notB_f, leI_t, leI_f, ltI_t, ltI_f, eqI_t, eqI_f, leN_t, leN_f, eqN_t, eqN_f, eqS_t, eqS_f, eqB_t, eqB_f, catOk_t, leC_t] using q2
    exact v2 false q (by rw [eF, if_neg (by simp [q1]), if_pos ⟨g, q3⟩])
  · exact h.elim
theorem rwr_con {n : Nat} (hn : 4 ≤ n) : ConOk (evalF Tryz.prog cfgN n) 26 writeCon := by
  intro vs bs K h
  unfold writeCon at h
  split at h
  · rename_i nx f0 xs id s
    obtain ⟨l, rfl, hRb, hid, hs, hK⟩ := h
    have hR := (rightW_iff _).1 hRb
    have hb := right_small hR
    have hlen := hb.1
    dsimp only at hlen
    refine run_of (lp := lpOf []) (by omega) (ct := ctOf [(51, exCon), (54, dirCon), (59, cmdCon), (58, numCon), (22, focusCon), (47, idxCon), (50, showCon), (49, withCon), (60, rctlCon)]) (fun k hk => ctOf_ok (ctOf_cons (rx_con (by omega)) (ctOf_cons (rd2_con (by omega)) (ctOf_cons (rcm_con (by omega)) (ctOf_cons (rnum_con (by omega)) (ctOf_cons (rfo_con (by omega)) (ctOf_cons (ra_con (by omega)) (ctOf_cons (dsp_con (by omega)) (ctOf_cons (wth_con (by omega)) (ctOf_cons (rct_con (by omega)) (ctOf_nil _))))))))))) ?_
    rw [rwr_vc]
    have f : ∀ {r}, writeW ⟨nx, f0, l⟩ id s = r → K (.tup [.agg [.int .i64 r.1.next, .int .i64 r.1.focus, .lst (windowV r.1.l)], .int .i64 r.2.1, .int .i64 r.2.2]) [] := fun h => by subst h; exact hK
    refine ⟨l, rfl, by omega, hid, ?_⟩
    rw [br_iff]; refine ⟨fun g => ?_, fun g => ?_⟩
    · have hp := rexB_none (l := l) (id := id) (by simpa [notB] using g)
      exact f (r := (⟨nx, f0, l⟩, 0, 8)) (by unfold writeW; simp only [hp])
    obtain ⟨p, hp⟩ := rexB_some (l := l) (id := id) (by simpa [notB] using g)
    obtain ⟨r1, r2, r3, r4, rc⟩ := file_x hp
    have eF : writeW ⟨nx, f0, l⟩ id s = if 2147483648 ≤ p.mode then (⟨nx, f0, l⟩, 0, 10)
        else if p.id = 2 then refocusF ⟨nx, f0, l⟩ s
        else if (wAt l p.window).gone = true then (⟨nx, f0, l⟩, 0, 55)
        else if p.file = 1 then (setW ⟨nx, f0, l⟩ p.window (showF (wAt l p.window) s), (s.length : Int), 0)
        else if p.file = 3 then (if 64 < s.length then (⟨nx, f0, l⟩, 0, 4) else (setW ⟨nx, f0, l⟩ p.window { wAt l p.window with label := s }, (s.length : Int), 0))
        else if p.file = 4 then (⟨nx, f0, l⟩, 0, 11)
        else if (controlF ⟨nx, f0, l⟩ p.window p.file (cmdF s)).2 ≠ 0 then (⟨nx, f0, l⟩, 0, (controlF ⟨nx, f0, l⟩ p.window p.file (cmdF s)).2)
        else ((controlF ⟨nx, f0, l⟩ p.window p.file (cmdF s)).1, (s.length : Int), 0) := by
      unfold writeW; simp only [hp]
    rw [br_iff]; refine ⟨fun g => f (r := (⟨nx, f0, l⟩, 0, 10)) (by rw [eF, if_pos (r2.1 g)]), fun g1 => ?_⟩
    rw [if_neg (fun h => by rw [r2.2 h] at g1; cases g1), r4] at eF
    rw [br_iff]; refine ⟨fun g => ?_, fun gi => ?_⟩
    · have g : id = 2 := by simpa only [br_iff, need_iff, andB_t, andB_f, orB_t, orB_f, notB_t, notB_f, leI_t, leI_f, ltI_t, ltI_f, eqI_t, eqI_f, leN_t, leN_f, eqN_t, eqN_f, eqS_t, eqS_f, eqB_t, eqB_f, catOk_t, leC_t] using g
      rw [if_pos g] at eF
      have hc := cmdF_len s
      refine ⟨by omega, by omega, fun m hm => ⟨l, rfl, hb, ?_⟩, fun hm => ?_⟩
      · have eR : refocusF ⟨nx, f0, l⟩ s = if seenW l m = true then (⟨nx, m, l⟩, (s.length : Int), 0) else (⟨nx, f0, l⟩, 0, 8) := by unfold refocusF; simp only [hm]
        rw [eR] at eF
        unfold focusF
        by_cases hsn : seenW l m = true
        · rw [if_pos hsn] at eF
          rw [if_pos hsn]
          exact f eF
        · rw [if_neg hsn] at eF
          rw [if_neg hsn]
          exact f eF
      · exact f (r := (⟨nx, f0, l⟩, 0, 5)) (by rw [eF]; unfold refocusF; simp only [hm])
    have gi : ¬ id = 2 := by simpa only [br_iff, need_iff, andB_t, andB_f, orB_t, orB_f, notB_t, notB_f, leI_t, leI_f, ltI_t, ltI_f, eqI_t, eqI_f, leN_t, leN_f, eqN_t, eqN_f, eqS_t, eqS_f, eqB_t, eqB_f, catOk_t, leC_t] using gi
    rcases rc with ⟨a1, a2, a3, a4 | a4⟩ | ⟨i, x, b1, b2, b3, b4, b5, b6, b7, b8, b9, b10, b11⟩
    · rw [a4.2] at g1; cases g1
    · exact absurd a4.1 gi
    rw [b8] at g1
    have g1 := of_decide_eq_false g1
    rw [if_neg gi, b6, b5, b7] at eF
    have ei : idxW l (quoI .i64 id 16) = Int.ofNat i := by rw [quoI_i64 (by omega) hid (by omega)]; exact b2
    have em : id.tmod 16 = id % 16 := tmod_pos (by omega)
    refine ⟨l, rfl, by omega, ?_⟩
    rw [show idxW l (quoI .i64 id 16) = (i : Int) from ei, ndL b4, need_tt, kdL b4, need_tt]
    refine ⟨x.id, x.label, x.line.raw, x.line.text, strV x.line.ready, x.text, x.opens, x.gone, by rw [windowV_row b3]; rfl, ?_⟩
    rw [br_iff]; refine ⟨fun g => f (r := (⟨nx, f0, l⟩, 0, 55)) (by rw [eF, if_pos g]), fun gg => ?_⟩
    rw [if_neg (by rw [gg]; simp)] at eF
    have hx := (soundW_iff x).1 (hR.sound x (List.mem_of_getElem? b3))
    rw [em]
    rw [br_iff]; refine ⟨fun g => ?_, fun q1 => ?_⟩
    · have g : id % 16 = 1 := by simpa only [br_iff, need_iff, andB_t, andB_f, orB_t, orB_f, notB_t, notB_f, leI_t, leI_f, ltI_t, ltI_f, eqI_t, eqI_f, leN_t, leN_f, eqN_t, eqN_f, eqS_t, eqS_f, eqB_t, eqB_f, catOk_t, leC_t] using g
      rw [if_pos g] at eF
      refine ⟨by omega, l, i, x.line.ready, rfl, rfl, b4, by omega, rfl, ?_⟩
      have e : showF x s = ⟨x.id, x.label, x.line, showT x.text s, x.opens, x.gone⟩ := by
        unfold showF showT
        dsimp only
      have := f (r := (⟨nx, f0, l.set i (showF x s)⟩, (s.length : Int), 0)) (by rw [eF]; unfold setW; rw [Int.toNat_natCast])
      rw [e] at this
      exact this
    have q1 : ¬ id % 16 = 1 := by simpa only [br_iff, need_iff, andB_t, andB_f, orB_t, orB_f, notB_t, notB_f, leI_t, leI_f, ltI_t, ltI_f, eqI_t, eqI_f, leN_t, leN_f, eqN_t, eqN_f, eqS_t, eqS_f, eqB_t, eqB_f, catOk_t, leC_t] using q1
    rw [if_neg q1] at eF
    have v1 : (id % 16 = 3 → s.length ≤ 64) → rwr_vc_1 nx f0 (windowV l) id s K l (strV x.line.ready) x.id x.line.raw x.line.text x.text x.opens x.gone := by
      intro hlab
      unfold rwr_vc_1
      rw [em, show idxW l (quoI .i64 id 16) = (i : Int) from ei]
      rw [br_iff]; refine ⟨fun g => ?_, fun q3 => ?_⟩
      · have g : id % 16 = 3 := by simpa only [br_iff, need_iff, andB_t, andB_f, orB_t, orB_f, notB_t, notB_f, leI_t, leI_f, ltI_t, ltI_f, eqI_t, eqI_f, leN_t, leN_f, eqN_t, eqN_f, eqS_t, eqS_f, eqB_t, eqB_f, catOk_t, leC_t] using g
        have := hlab g
        rw [if_pos g, if_neg (by omega)] at eF
        exact ⟨l, i, x.line.ready, rfl, rfl, b4, by omega, rfl, f (r := (⟨nx, f0, l.set i { x with label := s }⟩, (s.length : Int), 0)) (by rw [eF]; unfold setW; rw [Int.toNat_natCast])⟩
      have q3 : ¬ id % 16 = 3 := by simpa only [br_iff, need_iff, andB_t, andB_f, orB_t, orB_f, notB_t, notB_f, leI_t, leI_f, ltI_t, ltI_f, eqI_t, eqI_f, leN_t, leN_f, eqN_t, eqN_f, eqS_t, eqS_f, eqB_t, eqB_f, catOk_t, leC_t] using q3
      rw [if_neg q3] at eF
      rw [br_iff]; refine ⟨fun g => f (r := (⟨nx, f0, l⟩, 0, 11)) (by rw [eF, if_pos (by simpa only [br_iff, need_iff, andB_t, andB_f, orB_t, orB_f, notB_t, notB_f, leI_t, leI_f, ltI_t, ltI_f, eqI_t, eqI_f, leN_t, leN_f, eqN_t, eqN_f, eqS_t, eqS_f, eqB_t, eqB_f, catOk_t, leC_t] using g)]), fun q4 => ?_⟩
      have q4 : ¬ id % 16 = 4 := by simpa only [br_iff, need_iff, andB_t, andB_f, orB_t, orB_f, notB_t, notB_f, leI_t, leI_f, ltI_t, ltI_f, eqI_t, eqI_f, leN_t, leN_f, eqN_t, eqN_f, eqS_t, eqS_f, eqB_t, eqB_f, catOk_t, leC_t] using q4
      rw [if_neg q4] at eF
      refine ⟨by omega, l, i, rfl, rfl, b4, hRb, by unfold ctlK; omega, ?_⟩
      generalize controlF ⟨nx, f0, l⟩ (i : Int) (id % 16) (cmdF s) = d at eF ⊢
      rw [br_iff]; refine ⟨fun g => f (r := (⟨nx, f0, l⟩, 0, d.2)) (by rw [eF, if_pos (by simpa only [br_iff, need_iff, andB_t, andB_f, orB_t, orB_f, notB_t, notB_f, leI_t, leI_f, ltI_t, ltI_f, eqI_t, eqI_f, leN_t, leN_f, eqN_t, eqN_f, eqS_t, eqS_f, eqB_t, eqB_f, catOk_t, leC_t] using g)]), fun g => f (r := (d.1, (s.length : Int), 0)) (by rw [eF, if_neg (by simpa only [br_iff, need_iff, andB_t, andB_f, orB_t, orB_f, notB_t, notB_f, leI_t, leI_f, ltI_t, ltI_f, eqI_t, eqI_f, leN_t, leN_f, eqN_t, eqN_f, eqS_t, eqS_f, eqB_t, eqB_f, catOk_t, leC_t, ne_eq, Decidable.not_not] using g)])⟩
    rw [br_iff]; refine ⟨fun g => ?_, fun g => v1 (fun h => absurd h (by simpa only [br_iff, need_iff, andB_t, andB_f, orB_t, orB_f, notB_t, notB_f, leI_t, leI_f, ltI_t, ltI_f, eqI_t, eqI_f, leN_t, leN_f, eqN_t, eqN_f, eqS_t, eqS_f, eqB_t, eqB_f, catOk_t, leC_t] using g))⟩
    have g : id % 16 = 3 := by simpa only [br_iff, need_iff, andB_t, andB_f, orB_t, orB_f, notB_t, notB_f, leI_t, leI_f, ltI_t, ltI_f, eqI_t, eqI_f, leN_t, leN_f, eqN_t, eqN_f, eqS_t, eqS_f, eqB_t, eqB_f, catOk_t, leC_t] using g
    rw [br_iff]; refine ⟨fun q => f (r := (⟨nx, f0, l⟩, 0, 4)) (by rw [if_pos g, if_pos (by simp only [br_iff, need_iff, andB_t, andB_f, orB_t, orB_f, notB_t, notB_f, leI_t, leI_f, ltI_t, ltI_f, eqI_t, eqI_f, leN_t, leN_f, eqN_t, eqN_f, eqS_t, eqS_f, eqB_t, eqB_f, catOk_t, leC_t, lenS] at q; omega)] at eF; exact eF), fun q => v1 (fun _ => by simp only [br_iff, need_iff, andB_t, andB_f, orB_t, orB_f, notB_t, notB_f, leI_t, leI_f, ltI_t, ltI_f, eqI_t, eqI_f, leN_t, leN_f, eqN_t, eqN_f, eqS_t, eqS_f, eqB_t, eqB_f, catOk_t, leC_t, lenS] at q; omega)⟩
  · exact h.elim
theorem wnt_con {n : Nat} (hn : 5 ≤ n) : ConOk (evalF Tryz.prog cfgN n) 9 didCon := by
  intro vs bs K h
  unfold didCon at h
  split at h
  · rename_i nx f0 xs k a m o c t
    obtain ⟨l, rfl, hRb, ha, hm1, hm2, ht, hK⟩ := h
    have hR := (rightW_iff _).1 hRb
    have hb := right_small hR
    have h0 := hR.next0
    have h1 := hR.next1
    dsimp only at h0 h1 hb
    refine run_of (lp := lpOf []) (by omega) (ct := ctOf [(21, makeCon), (22, focusCon), (23, wtypeCon), (24, openCon), (25, wreadCon), (26, writeCon), (27, closeCon)])
      (fun k hk => ctOf_ok (ctOf_cons (rmk_con (by omega)) (ctOf_cons (rfo_con (by omega)) (ctOf_cons (rtp_con (by omega)) (ctOf_cons (rop_con (by omega)) (ctOf_cons (rre_con (by omega)) (ctOf_cons (rwr_con (by omega)) (ctOf_cons (rcs_con (by omega)) (ctOf_nil _))))))))) ?_
    rw [wnt_vc]
    unfold didF at hK
    dsimp only at hK
    rw [br_iff]; refine ⟨fun g => ⟨l, rfl, hb, ⟨by omega, by omega⟩, by simp only [if_pos (show k = 1 by simpa only [br_iff, need_iff, andB_t, andB_f, orB_t, orB_f, notB_t, notB_f, leI_t, leI_f, ltI_t, ltI_f, eqI_t, eqI_f, leN_t, leN_f, eqN_t, eqN_f, eqS_t, eqS_f, eqB_t, eqB_f, catOk_t, leC_t] using g)] at hK; exact hK⟩, fun g => ?_⟩
    simp only [if_neg (show ¬ k = 1 by simpa only [br_iff, need_iff, andB_t, andB_f, orB_t, orB_f, notB_t, notB_f, leI_t, leI_f, ltI_t, ltI_f, eqI_t, eqI_f, leN_t, leN_f, eqN_t, eqN_f, eqS_t, eqS_f, eqB_t, eqB_f, catOk_t, leC_t] using g)] at hK
    rw [br_iff]; refine ⟨fun g => ⟨l, rfl, hb, by simp only [if_pos (show k = 2 by simpa only [br_iff, need_iff, andB_t, andB_f, orB_t, orB_f, notB_t, notB_f, leI_t, leI_f, ltI_t, ltI_f, eqI_t, eqI_f, leN_t, leN_f, eqN_t, eqN_f, eqS_t, eqS_f, eqB_t, eqB_f, catOk_t, leC_t] using g)] at hK; exact hK⟩, fun g => ?_⟩
    simp only [if_neg (show ¬ k = 2 by simpa only [br_iff, need_iff, andB_t, andB_f, orB_t, orB_f, notB_t, notB_f, leI_t, leI_f, ltI_t, ltI_f, eqI_t, eqI_f, leN_t, leN_f, eqN_t, eqN_f, eqS_t, eqS_f, eqB_t, eqB_f, catOk_t, leC_t] using g)] at hK
    rw [br_iff]; refine ⟨fun g => ⟨l, rfl, hRb, ht, by simp only [if_pos (show k = 3 by simpa only [br_iff, need_iff, andB_t, andB_f, orB_t, orB_f, notB_t, notB_f, leI_t, leI_f, ltI_t, ltI_f, eqI_t, eqI_f, leN_t, leN_f, eqN_t, eqN_f, eqS_t, eqS_f, eqB_t, eqB_f, catOk_t, leC_t] using g)] at hK; exact hK⟩, fun g => ?_⟩
    simp only [if_neg (show ¬ k = 3 by simpa only [br_iff, need_iff, andB_t, andB_f, orB_t, orB_f, notB_t, notB_f, leI_t, leI_f, ltI_t, ltI_f, eqI_t, eqI_f, leN_t, leN_f, eqN_t, eqN_f, eqS_t, eqS_f, eqB_t, eqB_f, catOk_t, leC_t] using g)] at hK
    rw [br_iff]; refine ⟨fun g => ⟨l, rfl, hRb, ha, hm1, hm2, by simp only [if_pos (show k = 4 by simpa only [br_iff, need_iff, andB_t, andB_f, orB_t, orB_f, notB_t, notB_f, leI_t, leI_f, ltI_t, ltI_f, eqI_t, eqI_f, leN_t, leN_f, eqN_t, eqN_f, eqS_t, eqS_f, eqB_t, eqB_f, catOk_t, leC_t] using g)] at hK; exact hK⟩, fun g => ?_⟩
    simp only [if_neg (show ¬ k = 4 by simpa only [br_iff, need_iff, andB_t, andB_f, orB_t, orB_f, notB_t, notB_f, leI_t, leI_f, ltI_t, ltI_f, eqI_t, eqI_f, leN_t, leN_f, eqN_t, eqN_f, eqS_t, eqS_f, eqB_t, eqB_f, catOk_t, leC_t] using g)] at hK
    rw [br_iff]; refine ⟨fun g => ⟨l, rfl, hRb, ha, by simp only [if_pos (show k = 5 by simpa only [br_iff, need_iff, andB_t, andB_f, orB_t, orB_f, notB_t, notB_f, leI_t, leI_f, ltI_t, ltI_f, eqI_t, eqI_f, leN_t, leN_f, eqN_t, eqN_f, eqS_t, eqS_f, eqB_t, eqB_f, catOk_t, leC_t] using g)] at hK; exact hK⟩, fun g => ?_⟩
    simp only [if_neg (show ¬ k = 5 by simpa only [br_iff, need_iff, andB_t, andB_f, orB_t, orB_f, notB_t, notB_f, leI_t, leI_f, ltI_t, ltI_f, eqI_t, eqI_f, leN_t, leN_f, eqN_t, eqN_f, eqS_t, eqS_f, eqB_t, eqB_f, catOk_t, leC_t] using g)] at hK
    rw [br_iff]; refine ⟨fun g => ⟨l, rfl, hRb, ha, by omega, by simp only [if_pos (show k = 6 by simpa only [br_iff, need_iff, andB_t, andB_f, orB_t, orB_f, notB_t, notB_f, leI_t, leI_f, ltI_t, ltI_f, eqI_t, eqI_f, leN_t, leN_f, eqN_t, eqN_f, eqS_t, eqS_f, eqB_t, eqB_f, catOk_t, leC_t] using g)] at hK; exact hK⟩, fun g => ?_⟩
    simp only [if_neg (show ¬ k = 6 by simpa only [br_iff, need_iff, andB_t, andB_f, orB_t, orB_f, notB_t, notB_f, leI_t, leI_f, ltI_t, ltI_f, eqI_t, eqI_f, leN_t, leN_f, eqN_t, eqN_f, eqS_t, eqS_f, eqB_t, eqB_f, catOk_t, leC_t] using g)] at hK
    rw [br_iff]; refine ⟨fun g => ⟨l, rfl, hRb, ha, by simp only [if_pos (show k = 7 by simpa only [br_iff, need_iff, andB_t, andB_f, orB_t, orB_f, notB_t, notB_f, leI_t, leI_f, ltI_t, ltI_f, eqI_t, eqI_f, leN_t, leN_f, eqN_t, eqN_f, eqS_t, eqS_f, eqB_t, eqB_f, catOk_t, leC_t] using g)] at hK; exact hK⟩, fun g => ?_⟩
    simp only [if_neg (show ¬ k = 7 by simpa only [br_iff, need_iff, andB_t, andB_f, orB_t, orB_f, notB_t, notB_f, leI_t, leI_f, ltI_t, ltI_f, eqI_t, eqI_f, leN_t, leN_f, eqN_t, eqN_f, eqS_t, eqS_f, eqB_t, eqB_f, catOk_t, leC_t] using g)] at hK
    exact hK
  · exact h.elim
end Go.Proofs.YtdbbpibfejchfaaGreatDoor
