/- Windows: the calls Make, Focus, Type, Open, Read, by contracts. -/
import Derived.Test.YtdbbpibfejchfaaGreatDoorWinWalk
import Derived.Test.YtdbbpibfejchfaaGreatDoorWinEdit
import Derived.Test.YtdbbpibfejchfaaGreatDoorEvF
namespace Go.Proofs.YtdbbpibfejchfaaGreatDoor
open Go.RowKit
set_option maxRecDepth 100000
set_option linter.unusedVariables false
set_option linter.unusedSimpArgs false
section
variable {l : List Window} {i : Nat}
theorem nd (h : i < l.length) : andB (leI 0 (i : Int)) (ltI (i : Int) (Int.ofNat l.length)) = true := by simp only [br_iff, need_iff, andB_t, andB_f, orB_t, orB_f, notB_t, notB_f, leI_t, leI_f, ltI_t, ltI_f, eqI_t, eqI_f, leN_t, leN_f, eqN_t, eqN_f, eqS_t, eqS_f, eqB_t, eqB_f, catOk_t, leC_t, Int.ofNat_eq_natCast]; omega
theorem ndL (h : i < l.length) : andB (leI 0 (i : Int)) (ltI (i : Int) (lenL (windowV l))) = true := by rw [windowV_lenL]; exact nd h
theorem kd (h : i < l.length) : okRow (windowV l) (0 + (i : Int).toNat) 8 = true := by simpa using windowV_ok h
theorem kdL (h : i < l.length) : okRow (windowV l) (i : Int).toNat 8 = true := by simpa using windowV_ok h
theorem pd {x : Window} (gx : l[i]? = some x) (o k : Nat) : partAt (windowV l) (0 + (i : Int).toNat) o k = sub x.v o k := by
  rw [Nat.zero_add, Int.toNat_natCast, windowV_part gx]
theorem ptd {x y : Window} (gx : l[i]? = some x) {o : Nat} {ys : List V} (e : put x.v o ys = some y.v) : putAt (windowV l) (0 + (i : Int).toNat) o ys = some (windowV (l.set i y)) := by
  rw [Nat.zero_add, Int.toNat_natCast]
  exact windowV_put gx e
theorem wall : List.take l.length (List.drop 0 (windowV l)) = windowV l := by rw [List.drop_zero, windowV_all]
theorem wallS (y : Window) : List.take l.length (List.drop 0 (windowV (l.set i y))) = windowV (l.set i y) := by
  rw [List.drop_zero]
  exact List.take_of_length_le (by rw [windowV_len, List.length_set]; omega)
end
theorem right_small {w : Windows} (h : RightW w) : smallL w.l := by
  have := h.len
  refine ⟨by omega, fun x hx => ?_⟩
  have hl := (rightL_iff _).1 (sound_line (h.sound x hx))
  omega
theorem right_focus {w : Windows} (h : RightW w) : 0 ≤ w.focus ∧ w.focus ≤ 1048576 := by
  have h1 := h.next1
  rcases h.focus with h0 | h0
  · omega
  · obtain ⟨i, x, e1, e2, e3, e4, e5⟩ := seenW_found h0
    have := h.ids x (List.mem_of_getElem? e2)
    omega
theorem mk_con {n : Nat} (hn : 2 ≤ n) : ConOk (evalF Tryz.prog cfgN n) 13 makeCon := by
  intro vs bs K h
  unfold makeCon at h
  split at h
  · rename_i nx f0 xs s
    obtain ⟨l, rfl, hb, hx, hK⟩ := h
    refine run_of (lp := lpOf []) (by omega) (ct := ctOf [(32, wcloneCon)]) (fun k hk => ctOf_ok (ctOf_cons (wcl_con (by omega)) (ctOf_nil _))) ?_
    rw [mk_vc]
    have f : ∀ {r}, makeF ⟨nx, f0, l⟩ s = r → K (.tup [.agg [.int .i64 r.1.next, .int .i64 r.1.focus, .lst (windowV r.1.l)], .int .i64 r.2.1, .int .i64 r.2.2]) [] := fun h => by subst h; exact hK
    have hlen := hb.1
    refine ⟨l, rfl, hb, ?_⟩
    simp only [wall, windowV_lenL]
    rw [br_iff]; refine ⟨fun g => f (r := (⟨nx, f0, l⟩, 0, 4)) (by unfold makeF; rw [if_pos (by simp only [br_iff, need_iff, andB_t, andB_f, orB_t, orB_f, notB_t, notB_f, leI_t, leI_f, ltI_t, ltI_f, eqI_t, eqI_f, leN_t, leN_f, eqN_t, eqN_f, eqS_t, eqS_f, eqB_t, eqB_f, catOk_t, leC_t, lenS] at g; omega)]), fun g1 => ?_⟩
    have g1 : ¬ 64 < s.length := by simp only [br_iff, need_iff, andB_t, andB_f, orB_t, orB_f, notB_t, notB_f, leI_t, leI_f, ltI_t, ltI_f, eqI_t, eqI_f, leN_t, leN_f, eqN_t, eqN_f, eqS_t, eqS_f, eqB_t, eqB_f, catOk_t, leC_t, lenS] at g1; omega
    rw [br_iff]; refine ⟨fun g => f (r := (⟨nx, f0, l⟩, 0, 22)) (by unfold makeF; rw [if_neg g1, if_pos (.inl (by simp only [br_iff, need_iff, andB_t, andB_f, orB_t, orB_f, notB_t, notB_f, leI_t, leI_f, ltI_t, ltI_f, eqI_t, eqI_f, leN_t, leN_f, eqN_t, eqN_f, eqS_t, eqS_f, eqB_t, eqB_f, catOk_t, leC_t] at g; simp only; omega))]), fun g2 => ?_⟩
    rw [br_iff]; refine ⟨fun g => f (r := (⟨nx, f0, l⟩, 0, 22)) (by unfold makeF; rw [if_neg g1, if_pos (.inr (by simpa only [br_iff, need_iff, andB_t, andB_f, orB_t, orB_f, notB_t, notB_f, leI_t, leI_f, ltI_t, ltI_f, eqI_t, eqI_f, leN_t, leN_f, eqN_t, eqN_f, eqS_t, eqS_f, eqB_t, eqB_f, catOk_t, leC_t] using g))]), fun g3 => ?_⟩
    simp only [br_iff, need_iff, andB_t, andB_f, orB_t, orB_f, notB_t, notB_f, leI_t, leI_f, ltI_t, ltI_f, eqI_t, eqI_f, leN_t, leN_f, eqN_t, eqN_f, eqS_t, eqS_f, eqB_t, eqB_f, catOk_t, leC_t] at g2 g3
    rw [need_iff]; refine ⟨windowV_head _, ?_⟩
    rw [br_iff]; refine ⟨fun g => by simp only [br_iff, need_iff, andB_t, andB_f, orB_t, orB_f, notB_t, notB_f, leI_t, leI_f, ltI_t, ltI_f, eqI_t, eqI_f, leN_t, leN_f, eqN_t, eqN_f, eqS_t, eqS_f, eqB_t, eqB_f, catOk_t, leC_t] at g; omega, fun _ => ?_⟩
    rw [need_iff]; refine ⟨by simp only [br_iff, need_iff, andB_t, andB_f, orB_t, orB_f, notB_t, notB_f, leI_t, leI_f, ltI_t, ltI_f, eqI_t, eqI_f, leN_t, leN_f, eqN_t, eqN_f, eqS_t, eqS_f, eqB_t, eqB_f, catOk_t, leC_t, windowV_len]; omega, ?_⟩
    rw [need_iff]; refine ⟨by simp only [br_iff, need_iff, andB_t, andB_f, orB_t, orB_f, notB_t, notB_f, leI_t, leI_f, ltI_t, ltI_f, eqI_t, eqI_f, leN_t, leN_f, eqN_t, eqN_f, eqS_t, eqS_f, eqB_t, eqB_f, catOk_t, leC_t]; omega, ?_⟩
    have e := f (r := (⟨nx + 1, nx, l ++ [⟨nx, s, lineZ, [], 0, false⟩]⟩, nx, 0)) (by unfold makeF; rw [if_neg g1, if_neg (by simp only; omega)])
    by_cases hneg : -9223372036854775808 ≤ nx
    · rw [addI_i64 (by omega) (by omega)]
      have e2 : List.take (l.length + 1) (List.drop 0 (List.drop 0 (windowV l) ++ [[V.int IntKind.i64 nx, V.str s, V.bool false, V.str [], V.lst [], V.str [], V.int IntKind.i64 0, V.bool false]])) = windowV (l ++ [⟨nx, s, lineZ, [], 0, false⟩]) := by
        rw [List.drop_zero, List.drop_zero, ← windowV_app]
        exact List.take_of_length_le (by simp [windowV_len])
      rw [e2]
      exact e
    · exact absurd hx.2 hneg
  · exact h.elim
theorem fo_con {n : Nat} (hn : 4 ≤ n) : ConOk (evalF Tryz.prog cfgN n) 20 focusCon := by
  intro vs bs K h
  unfold focusCon at h
  split at h
  · rename_i nx f0 xs id
    obtain ⟨l, rfl, hb, hK⟩ := h
    refine run_of (lp := lpOf []) (by omega) (ct := ctOf [(32, wcloneCon), (30, idxCon)]) (fun k hk => ctOf_ok (ctOf_cons (wcl_con (by omega)) (ctOf_cons (idx_con (by omega)) (ctOf_nil _)))) ?_
    rw [fo_vc]
    have f : ∀ {r}, focusF ⟨nx, f0, l⟩ id = r → K (.tup [.agg [.int .i64 r.1.next, .int .i64 r.1.focus, .lst (windowV r.1.l)], .int .i64 r.2]) [] := fun h => by subst h; exact hK
    have hlen := hb.1
    refine ⟨l, rfl, hb, l, rfl, by omega, ?_⟩
    simp only [wall]
    rw [br_iff]; refine ⟨fun g => f (r := (⟨nx, f0, l⟩, 8)) ?_, fun g => ?_⟩
    · unfold focusF seenW
      rw [decide_eq_false (p := 0 ≤ idxW l id) (by simp only [br_iff, need_iff, andB_t, andB_f, orB_t, orB_f, notB_t, notB_f, leI_t, leI_f, ltI_t, ltI_f, eqI_t, eqI_f, leN_t, leN_f, eqN_t, eqN_f, eqS_t, eqS_f, eqB_t, eqB_f, catOk_t, leC_t] at g; omega)]; simp
    have g : 0 ≤ idxW l id := by simp only [br_iff, need_iff, andB_t, andB_f, orB_t, orB_f, notB_t, notB_f, leI_t, leI_f, ltI_t, ltI_f, eqI_t, eqI_f, leN_t, leN_f, eqN_t, eqN_f, eqS_t, eqS_f, eqB_t, eqB_f, catOk_t, leC_t] at g; omega
    obtain ⟨i, x, e1, e2, e3, e4, e5⟩ := idxW_found g
    have hs : seenW l id = !x.gone := by unfold seenW; rw [decide_eq_true g, e1, e5]; rfl
    rw [e1, ndL e3, need_tt, kdL e3, need_tt]
    refine ⟨x.gone, by rw [windowV_row e2]; rfl, ?_⟩
    rw [br_iff]; refine ⟨fun q => f (r := (⟨nx, f0, l⟩, 8)) (by unfold focusF; rw [hs, q]; rfl), fun q => f (r := (⟨nx, id, l⟩, 0)) (by unfold focusF; rw [hs, q]; rfl)⟩
  · exact h.elim
theorem feedW_v (x : Window) (s : List UInt8) : (feedW x s).v = [.int .i64 x.id, .str x.label, .bool (feedF x.line s).1.raw, .str (feedF x.line s).1.text, .lst (strV (feedF x.line s).1.ready), .str (showT x.text (feedF x.line s).2), .int .i64 x.opens, .bool x.gone] := by
  unfold feedW showF showT Window.v
  dsimp only
theorem wt_con {n : Nat} (hn : 5 ≤ n) : ConOk (evalF Tryz.prog cfgN n) 15 wtypeCon := by
  intro vs bs K h
  unfold wtypeCon at h
  split at h
  · rename_i nx f0 xs s
    obtain ⟨l, rfl, hR, hs, hK⟩ := h
    have hR := (rightW_iff _).1 hR
    have hb := right_small hR
    refine run_of (lp := lpOf []) (by omega) (ct := ctOf [(32, wcloneCon), (30, idxCon), (38, feedCon), (39, showCon)])
      (fun k hk => ctOf_ok (ctOf_cons (wcl_con (by omega)) (ctOf_cons (idx_con (by omega)) (ctOf_cons (fd_con (by omega)) (ctOf_cons (shw_con (by omega)) (ctOf_nil _)))))) ?_
    rw [wt_vc]
    have f : ∀ {r}, typeW ⟨nx, f0, l⟩ s = r → K (.agg [.int .i64 r.next, .int .i64 r.focus, .lst (windowV r.l)]) [] := fun h => by subst h; exact hK
    have hlen := hb.1
    refine ⟨l, rfl, hb, ?_⟩
    simp only [wall]
    refine ⟨l, rfl, by dsimp only at hlen; omega, ?_⟩
    rw [br_iff]; refine ⟨fun g => f (r := ⟨nx, f0, l⟩) ?_, fun _ => ?_⟩
    · have g : f0 = 0 := by simpa only [br_iff, need_iff, andB_t, andB_f, orB_t, orB_f, notB_t, notB_f, leI_t, leI_f, ltI_t, ltI_f, eqI_t, eqI_f, leN_t, leN_f, eqN_t, eqN_f, eqS_t, eqS_f, eqB_t, eqB_f, catOk_t, leC_t] using g
      unfold typeW
      rw [if_pos]
      rw [idxW_none (fun a ha => by have := hR.ids a ha; simp only; omega)]; omega
    rw [br_iff]; refine ⟨fun g => f (r := ⟨nx, f0, l⟩) (by unfold typeW; rw [if_pos (by simpa only [br_iff, need_iff, andB_t, andB_f, orB_t, orB_f, notB_t, notB_f, leI_t, leI_f, ltI_t, ltI_f, eqI_t, eqI_f, leN_t, leN_f, eqN_t, eqN_f, eqS_t, eqS_f, eqB_t, eqB_f, catOk_t, leC_t] using g)]), fun g => ?_⟩
    have g : 0 ≤ idxW l f0 := by simp only [br_iff, need_iff, andB_t, andB_f, orB_t, orB_f, notB_t, notB_f, leI_t, leI_f, ltI_t, ltI_f, eqI_t, eqI_f, leN_t, leN_f, eqN_t, eqN_f, eqS_t, eqS_f, eqB_t, eqB_f, catOk_t, leC_t] at g; omega
    obtain ⟨i, x, e1, e2, e3, e4, e5⟩ := idxW_found g
    have hx := hR.sound x (List.mem_of_getElem? e2)
    have hxl := sound_line hx
    have hE := feedF_echo s hxl
    obtain ⟨_, ht, _⟩ := (soundW_iff x).1 hx
    rw [e1, nd e3, need_tt, kd e3, need_tt]
    refine ⟨x.id, x.label, x.line.raw, x.line.text, strV x.line.ready, x.text, x.opens, x.gone, by rw [pd e2]; rfl, x.line.ready, rfl, hxl, hs, ?_, ?_⟩
    · show x.text.length + (feedF x.line s).2.length ≤ _
      omega
    rw [need_iff]; refine ⟨rfl, ?_⟩
    rw [need_iff]; refine ⟨rfl, windowV (l.set i (feedW x s)), ptd e2 (by rw [feedW_v]; rfl), ?_⟩
    rw [wallS]
    exact f (r := ⟨nx, f0, l.set i (feedW x s)⟩) (by unfold typeW; simp only; rw [if_neg (by omega), e1, e5]; unfold setW; rw [Int.toNat_natCast])
  · exact h.elim
theorem perm_bits {m : Int} (h : 0 ≤ m) (h2 : m ≤ 9223372036854775807) (b : Int) (hb : 0 < b) : eqI ((quoI .i64 m b).tmod 2) 1 = decide ((m / b) % 2 = 1) := by
  rw [quoI_i64 h h2 hb, tmod_pos (Int.ediv_nonneg h (by omega))]
  rfl
theorem permF_no {m : Int} (h : ∀ b : Int, 0 ≤ b → b ≤ 3 → m ≠ b ∧ m ≠ b + 16 ∧ m ≠ b + 64 ∧ m ≠ b + 80) : permF m = (0, 12) := by
  have h0 := h 0 (by omega) (by omega)
  have h1 := h 1 (by omega) (by omega)
  have h2 := h 2 (by omega) (by omega)
  have h3 := h 3 (by omega) (by omega)
  unfold permF
  rw [if_neg (by omega), if_neg (by omega), if_neg (by omega), if_neg (by omega), if_neg (by omega), if_neg (by omega), if_neg (by omega), if_neg (by omega)]
theorem permF_ok {m : Int} (h : (permF m).2 = 0) : 0 ≤ m ∧ m ≤ 83 ∧ (64 ≤ m ↔ (m / 64) % 2 = 1) := by
  rcases (by omega : m < 0 ∨ 83 < m ∨ (0 ≤ m ∧ m ≤ 83)) with h1 | h1 | h1
  · rw [permF_no (fun b hb hb2 => by omega)] at h; cases h
  · rw [permF_no (fun b hb hb2 => by omega)] at h; cases h
  · omega
theorem or2 : orI .i64 4 2 = 6 ∧ orI .i64 2 2 = 2 ∧ orI .i64 6 2 = 6 ∧ orI .i64 1 2 = 3 := by decide +kernel
theorem perm_con {n : Nat} (hn : 2 ≤ n) : ConOk (evalF Tryz.prog cfgN n) 40 permCon := by
  intro vs bs K h
  unfold permCon at h
  split at h
  · rename_i m
    obtain ⟨h1, h2, hK⟩ := h
    refine run_of (lp := lpOf []) (by omega) (ct := ctOf [(74, inlC Tryz.prog cfgN (ctOf []) 74)]) (fun k hk => ctOf_ok (ctOf_cons (inl_ok (by omega) (fun _ _ => noCt_ok _)) (ctOf_nil _))) ?_
    rw [prm_vc]
    have f : ∀ {r}, permF m = r → K (.tup [.int .i64 r.1, .int .i64 r.2]) [] := fun h => by subst h; exact hK
    have main : ∀ base : Int, 0 ≤ m → (m = base ∧ ¬ (m / 16) % 2 = 1 ∧ ¬ (m / 64) % 2 = 1 ∨ m = base + 16 ∧ (m / 16) % 2 = 1 ∧ ¬ (m / 64) % 2 = 1 ∨ m = base + 64 ∧ ¬ (m / 16) % 2 = 1 ∧ (m / 64) % 2 = 1 ∨ m = base + 80 ∧ (m / 16) % 2 = 1 ∧ (m / 64) % 2 = 1) →
        br (ltI base 0) (K (V.tup [V.int IntKind.i64 0, V.int IntKind.i64 12]) []) (br (ltI 3 base) (K (V.tup [V.int IntKind.i64 0, V.int IntKind.i64 12]) [])
          (need (andB (leI 0 base) (ltI base 4)) (need (okRow [[V.int IntKind.i64 4], [V.int IntKind.i64 2], [V.int IntKind.i64 6], [V.int IntKind.i64 1]] (0 + base.toNat) 1)
            (∃ n2 : Int, ((partAt [[V.int IntKind.i64 4], [V.int IntKind.i64 2], [V.int IntKind.i64 6], [V.int IntKind.i64 1]] (0 + base.toNat) 0 1 : Option (List V)) = some [V.int IntKind.i64 n2]) ∧ (prm_vc_4 m K n2))))) := by
      intro base h0 hc
      rw [br_iff]; refine ⟨fun g => f (r := (0, 12)) (permF_no fun b hb hb2 => by simp only [br_iff, need_iff, andB_t, andB_f, orB_t, orB_f, notB_t, notB_f, leI_t, leI_f, ltI_t, ltI_f, eqI_t, eqI_f, leN_t, leN_f, eqN_t, eqN_f, eqS_t, eqS_f, eqB_t, eqB_f, catOk_t, leC_t] at g; omega), fun g1 => ?_⟩
      rw [br_iff]; refine ⟨fun g => f (r := (0, 12)) (permF_no fun b hb hb2 => by simp only [br_iff, need_iff, andB_t, andB_f, orB_t, orB_f, notB_t, notB_f, leI_t, leI_f, ltI_t, ltI_f, eqI_t, eqI_f, leN_t, leN_f, eqN_t, eqN_f, eqS_t, eqS_f, eqB_t, eqB_f, catOk_t, leC_t] at g; omega), fun g2 => ?_⟩
      simp only [br_iff, need_iff, andB_t, andB_f, orB_t, orB_f, notB_t, notB_f, leI_t, leI_f, ltI_t, ltI_f, eqI_t, eqI_f, leN_t, leN_f, eqN_t, eqN_f, eqS_t, eqS_f, eqB_t, eqB_f, catOk_t, leC_t] at g1 g2
      rw [need_iff]; refine ⟨by simp only [br_iff, need_iff, andB_t, andB_f, orB_t, orB_f, notB_t, notB_f, leI_t, leI_f, ltI_t, ltI_f, eqI_t, eqI_f, leN_t, leN_f, eqN_t, eqN_f, eqS_t, eqS_f, eqB_t, eqB_f, catOk_t, leC_t]; omega, ?_⟩
      have p4 : ∀ n2 : Int, ((m / 16) % 2 = 1 → K (.tup [.int .i64 (orI .i64 n2 2), .int .i64 0]) []) → (¬ (m / 16) % 2 = 1 → K (.tup [.int .i64 n2, .int .i64 0]) []) → prm_vc_4 m K n2 := by
        intro n2 k1 k2
        unfold prm_vc_4
        rw [br_iff]; refine ⟨fun _ => ?_, fun g => by simp only [br_iff, need_iff, andB_t, andB_f, orB_t, orB_f, notB_t, notB_f, leI_t, leI_f, ltI_t, ltI_f, eqI_t, eqI_f, leN_t, leN_f, eqN_t, eqN_f, eqS_t, eqS_f, eqB_t, eqB_f, catOk_t, leC_t] at g; omega⟩
        rw [perm_bits h0 h1 16 (by omega), br_iff]
        exact ⟨fun g => k1 (of_decide_eq_true g), fun g => k2 (of_decide_eq_false g)⟩
      obtain ⟨o1, o2, o3, o4⟩ := or2
      rcases (by omega : base = 0 ∨ base = 1 ∨ base = 2 ∨ base = 3) with rfl | rfl | rfl | rfl
      · rw [need_iff]; refine ⟨rfl, 4, rfl, p4 4 (fun q => ?_) (fun q => ?_)⟩
        · rw [o1]; exact f (r := (6, 0)) (by rcases hc with hc | hc | hc | hc <;> first | (exfalso; omega) | (obtain ⟨rfl, _⟩ := hc; decide))
        · exact f (r := (4, 0)) (by rcases hc with hc | hc | hc | hc <;> first | (exfalso; omega) | (obtain ⟨rfl, _⟩ := hc; decide))
      · rw [need_iff]; refine ⟨rfl, 2, rfl, p4 2 (fun q => ?_) (fun q => ?_)⟩
        · rw [o2]; exact f (r := (2, 0)) (by rcases hc with hc | hc | hc | hc <;> first | (exfalso; omega) | (obtain ⟨rfl, _⟩ := hc; decide))
        · exact f (r := (2, 0)) (by rcases hc with hc | hc | hc | hc <;> first | (exfalso; omega) | (obtain ⟨rfl, _⟩ := hc; decide))
      · rw [need_iff]; refine ⟨rfl, 6, rfl, p4 6 (fun q => ?_) (fun q => ?_)⟩
        · rw [o3]; exact f (r := (6, 0)) (by rcases hc with hc | hc | hc | hc <;> first | (exfalso; omega) | (obtain ⟨rfl, _⟩ := hc; decide))
        · exact f (r := (6, 0)) (by rcases hc with hc | hc | hc | hc <;> first | (exfalso; omega) | (obtain ⟨rfl, _⟩ := hc; decide))
      · rw [need_iff]; refine ⟨rfl, 1, rfl, p4 1 (fun q => ?_) (fun q => ?_)⟩
        · rw [o4]; exact f (r := (3, 0)) (by rcases hc with hc | hc | hc | hc <;> first | (exfalso; omega) | (obtain ⟨rfl, _⟩ := hc; decide))
        · exact f (r := (1, 0)) (by rcases hc with hc | hc | hc | hc <;> first | (exfalso; omega) | (obtain ⟨rfl, _⟩ := hc; decide))
    have v3 : (m < 0 ∨ ¬ (m / 16) % 2 = 1 ∧ ¬ (m / 64) % 2 = 1) → prm_vc_3 m K := by
      intro hc
      unfold prm_vc_3
      by_cases h0 : 0 ≤ m
      · exact main m h0 (.inl ⟨rfl, by omega⟩)
      · rw [br_iff]; exact ⟨fun _ => f (r := (0, 12)) (permF_no fun b hb hb2 => by omega), fun g => by simp only [br_iff, need_iff, andB_t, andB_f, orB_t, orB_f, notB_t, notB_f, leI_t, leI_f, ltI_t, ltI_f, eqI_t, eqI_f, leN_t, leN_f, eqN_t, eqN_f, eqS_t, eqS_f, eqB_t, eqB_f, catOk_t, leC_t] at g; omega⟩
    have v1 : (m < 0 ∨ ¬ (m / 16) % 2 = 1) → prm_vc_1 m K := by
      intro hc
      unfold prm_vc_1
      rw [br_iff]; refine ⟨fun g => ?_, fun g => v3 (.inl (by simpa only [br_iff, need_iff, andB_t, andB_f, orB_t, orB_f, notB_t, notB_f, leI_t, leI_f, ltI_t, ltI_f, eqI_t, eqI_f, leN_t, leN_f, eqN_t, eqN_f, eqS_t, eqS_f, eqB_t, eqB_f, catOk_t, leC_t] using g))⟩
      have h0 : 0 ≤ m := by simpa only [br_iff, need_iff, andB_t, andB_f, orB_t, orB_f, notB_t, notB_f, leI_t, leI_f, ltI_t, ltI_f, eqI_t, eqI_f, leN_t, leN_f, eqN_t, eqN_f, eqS_t, eqS_f, eqB_t, eqB_f, catOk_t, leC_t] using g
      rw [perm_bits h0 h1 64 (by omega), br_iff]
      refine ⟨fun q => ?_, fun q => v3 (.inr ⟨by omega, of_decide_eq_false q⟩)⟩
      have q := of_decide_eq_true q
      rw [subI_i64 (by omega) (by omega)]
      exact main (m - 64) h0 (.inr (.inr (.inl ⟨by omega, by omega, q⟩)))
    rw [br_iff]; refine ⟨fun g => ?_, fun g => v1 (.inl (by simpa only [br_iff, need_iff, andB_t, andB_f, orB_t, orB_f, notB_t, notB_f, leI_t, leI_f, ltI_t, ltI_f, eqI_t, eqI_f, leN_t, leN_f, eqN_t, eqN_f, eqS_t, eqS_f, eqB_t, eqB_f, catOk_t, leC_t] using g))⟩
    have h0 : 0 ≤ m := by simpa only [br_iff, need_iff, andB_t, andB_f, orB_t, orB_f, notB_t, notB_f, leI_t, leI_f, ltI_t, ltI_f, eqI_t, eqI_f, leN_t, leN_f, eqN_t, eqN_f, eqS_t, eqS_f, eqB_t, eqB_f, catOk_t, leC_t] using g
    rw [perm_bits h0 h1 16 (by omega), br_iff]
    refine ⟨fun q => ?_, fun q => v1 (.inr (of_decide_eq_false q))⟩
    have q := of_decide_eq_true q
    rw [subI_i64 (a := m) (b := 16) (by omega) (by omega)]
    have v2 : ¬ (m / 64) % 2 = 1 → prm_vc_2 m K := by
      intro hc
      unfold prm_vc_2
      rw [subI_i64 (by omega) (by omega)]
      exact main (m - 16) h0 (.inr (.inl ⟨by omega, q, hc⟩))
    rw [br_iff]; refine ⟨fun _ => ?_, fun g => by simp only [br_iff, need_iff, andB_t, andB_f, orB_t, orB_f, notB_t, notB_f, leI_t, leI_f, ltI_t, ltI_f, eqI_t, eqI_f, leN_t, leN_f, eqN_t, eqN_f, eqS_t, eqS_f, eqB_t, eqB_f, catOk_t, leC_t] at g; omega⟩
    rw [perm_bits h0 h1 64 (by omega), br_iff]
    refine ⟨fun q2 => ?_, fun q2 => v2 (of_decide_eq_false q2)⟩
    have q2 := of_decide_eq_true q2
    rw [subI_i64 (by omega) (by omega)]
    exact main (m - 16 - 64) h0 (.inr (.inr (.inr ⟨by omega, q, q2⟩)))
  · exact h.elim
end Go.Proofs.YtdbbpibfejchfaaGreatDoor
namespace Go.Proofs.YtdbbpibfejchfaaGreatDoor
open Go.RowKit
set_option maxRecDepth 100000
set_option linter.unusedVariables false
set_option linter.unusedSimpArgs false
theorem wdel_vc (xs : List (List V)) (n m : Nat) (i j : Int) (K : V → List Bk → Prop) : vcF Tryz.prog cfgN (ctOf []) (lpOf []) 45 [.ref 0 0 n m, .int .i64 i, .int .i64 j] [⟨true, false, true, xs, 0⟩] K = delP 8 104 [.int .i64 0, .str [], .bool false, .str [], .nils, .str [], .int .i64 0, .bool false] xs n m i j K := by kernel_rfl
theorem del_con {n : Nat} (hn : 1 ≤ n) : ConOk (evalF Tryz.prog cfgN n) 45 delCon := by
  intro vs bs K h
  unfold delCon at h
  split at h
  · rename_i n' m' i j xs
    obtain ⟨l, k, rfl, rfl, rfl, rfl, rfl, hk, hb, hK⟩ := h
    refine run_of (lp := lpOf []) hn (fun k _ => noCt_ok _) ?_
    rw [wdel_vc]
    have := delP_of (z := 8) (b := 104) (Z := [.int .i64 0, .str [], .bool false, .str [], .nils, .str [], .int .i64 0, .bool false]) (xs := windowV l) (k := k) (K := K)
      (fun r hr => by obtain ⟨x, _, rfl⟩ := List.mem_map.1 hr; rfl) (by rw [windowV_len]; exact hk) (by rw [windowV_len]; omega)
      (fun ys => by
        rw [windowV_len, show (windowV l).eraseIdx k = windowV (l.eraseIdx k) by simp [windowV, List.eraseIdx_eq_take_drop_succ, List.map_take, List.map_drop]]
        exact hK ys)
    rw [windowV_len] at this
    exact this
  · exact h.elim
theorem mode_and {w : Int} : ∀ m : Int, (m = 438 ∨ m = 146 ∨ m = 292 ∨ m = 2147484013) → (m.tmod 8 = m % 8) := fun m h => by
  rcases h with rfl | rfl | rfl | rfl <;> decide
theorem place_mode {l : List Window} {id : Int} {p : Place} (h : fileF l id = some p) : p.mode = 438 ∨ p.mode = 146 ∨ p.mode = 292 ∨ p.mode = 2147484013 := by
  rcases file_cases h with ⟨_, rfl⟩ | ⟨_, rfl⟩ | ⟨i, x, _, _, _, _, _, _, _, _, _, _, _, hm⟩
  · simp
  · simp
  · rcases hm with ⟨_, _, hm, _⟩ | ⟨_, hm, _⟩
    · omega
    · rw [hm]; unfold modeK
      split
      · omega
      split
      · omega
      split
      · omega
      split <;> omega
/-- A window's file is at a window's place. -/
theorem place_at {l : List Window} {id : Int} {p : Place} (h : fileF l id = some p) : (p.window = -1 ∧ p.file = 0 ∧ (p.id = 1 ∨ p.id = 2) ∧ (p.id = 1 → p.mode = 2147484013)) ∨ ∃ (i : Nat) (x : Window), p.window = (i : Int) ∧ l[i]? = some x ∧ i < l.length ∧ wAt l (i : Int) = x ∧ 16 ≤ p.id ∧ 0 ≤ p.file ∧ p.file ≤ 5 ∧ (p.file = 0 → p.mode = 2147484013 ∧ x.gone = false) ∧ (p.file ≠ 0 → p.mode < 2147483648) := by
  rcases file_cases h with ⟨_, rfl⟩ | ⟨_, rfl⟩ | ⟨i, x, h1, h2, h3, h4, h5, h6, h7, h8, h9, h10, h11, hm⟩
  · left; simp
  · left; simp
  · right
    have := modeK_lt (id % 16)
    exact ⟨i, x, h10, h3, h4, h6, by omega, by omega, by omega, fun q => by rcases hm with hm | hm; exact ⟨hm.2.2.1, hm.2.1⟩; omega, fun q => by rcases hm with hm | hm <;> omega⟩
theorem op_con {n : Nat} (hn : 5 ≤ n) : ConOk (evalF Tryz.prog cfgN n) 16 openCon := by
  intro vs bs K h
  unfold openCon at h
  split at h
  · rename_i nx f0 xs id m
    obtain ⟨l, rfl, hR, hid, hm1, hm2, hK⟩ := h
    have hR := (rightW_iff _).1 hR
    have hb := right_small hR
    have hlen := hb.1
    dsimp only at hlen
    refine run_of (lp := lpOf []) (by omega) (ct := ctOf [(32, wcloneCon), (33, findCon), (40, permCon), (34, inlC Tryz.prog cfgN (ctOf []) 34), (35, inlC Tryz.prog cfgN (ctOf []) 35)])
      (fun k hk => ctOf_ok (ctOf_cons (wcl_con (by omega)) (ctOf_cons (fnd_con (by omega)) (ctOf_cons (perm_con (by omega)) (ctOf_cons (inl_ok (by omega) (fun _ _ => noCt_ok _)) (ctOf_cons (inl_ok (by omega) (fun _ _ => noCt_ok _)) (ctOf_nil _))))))) ?_
    rw [op_vc]
    have f : ∀ {r}, openF ⟨nx, f0, l⟩ id m = r → K (.tup [.agg [.int .i64 r.1.next, .int .i64 r.1.focus, .lst (windowV r.1.l)], .int .i64 r.2]) [] := fun h => by subst h; exact hK
    refine ⟨l, rfl, hb, l, rfl, hlen, hid, fun p hp => ?_, fun hp => ?_⟩
    rotate_left
    · rw [wall]; exact f (r := (⟨nx, f0, l⟩, 8)) (by unfold openF; simp only [hp])
    have eF : openF ⟨nx, f0, l⟩ id m = if 0 ≤ p.window ∧ (wAt l p.window).gone = true then (⟨nx, f0, l⟩, 8)
        else if (permF m).2 ≠ 0 then (⟨nx, f0, l⟩, (permF m).2)
        else if 2147483648 ≤ p.mode ∧ m ≠ 0 then (⟨nx, f0, l⟩, 10)
        else if 64 ≤ m ∨ andI .i64 (p.mode % 8) (permF m).1 ≠ (permF m).1 then (⟨nx, f0, l⟩, 11)
        else if p.window < 0 ∨ p.file = 0 then (⟨nx, f0, l⟩, 0)
        else if 9007199254740991 ≤ (wAt l p.window).opens then (⟨nx, f0, l⟩, 22)
        else (setW ⟨nx, f0, l⟩ p.window { wAt l p.window with opens := (wAt l p.window).opens + 1 }, 0) := by
      unfold openF; simp only [hp]
    have v2 : ¬ (0 ≤ p.window ∧ (wAt l p.window).gone = true) → (permF m).2 = 0 → ¬ (2147483648 ≤ p.mode ∧ m ≠ 0) → op_vc_2 nx f0 (windowV l) id m K l p := by
      intro c1 c2 c3
      obtain ⟨q1, q2, q3⟩ := permF_ok c2
      rw [if_neg c1, if_neg (by simp [c2]), if_neg c3] at eF
      unfold op_vc_2
      simp only [wall]
      rw [perm_bits q1 hm1 64 (by omega), br_iff]
      refine ⟨fun g => f (r := (⟨nx, f0, l⟩, 11)) (by rw [eF, if_pos (.inl (q3.2 (of_decide_eq_true g)))]), fun g => ?_⟩
      have g64 : ¬ 64 ≤ m := fun h => of_decide_eq_false g (q3.1 h)
      rw [mode_and (w := 0) _ (place_mode hp), br_iff]
      refine ⟨fun g => f (r := (⟨nx, f0, l⟩, 11)) (by rw [eF, if_pos (.inr (by simpa only [br_iff, need_iff, andB_t, andB_f, orB_t, orB_f, notB_t, notB_f, leI_t, leI_f, ltI_t, ltI_f, eqI_t, eqI_f, leN_t, leN_f, eqN_t, eqN_f, eqS_t, eqS_f, eqB_t, eqB_f, catOk_t, leC_t] using g))]), fun g2 => ?_⟩
      have g2 : ¬ andI .i64 (p.mode % 8) (permF m).1 ≠ (permF m).1 := by simpa only [br_iff, need_iff, andB_t, andB_f, orB_t, orB_f, notB_t, notB_f, leI_t, leI_f, ltI_t, ltI_f, eqI_t, eqI_f, leN_t, leN_f, eqN_t, eqN_f, eqS_t, eqS_f, eqB_t, eqB_f, catOk_t, leC_t, ne_eq, Decidable.not_not] using g2
      rw [if_neg (by rintro (h | h); exact g64 h; exact g2 h)] at eF
      rw [br_iff]; refine ⟨fun gw => ?_, fun gw => f (r := (⟨nx, f0, l⟩, 0)) (by rw [eF, if_pos (.inl (by simpa only [br_iff, need_iff, andB_t, andB_f, orB_t, orB_f, notB_t, notB_f, leI_t, leI_f, ltI_t, ltI_f, eqI_t, eqI_f, leN_t, leN_f, eqN_t, eqN_f, eqS_t, eqS_f, eqB_t, eqB_f, catOk_t, leC_t] using gw))])⟩
      rw [br_iff]; refine ⟨fun gf => f (r := (⟨nx, f0, l⟩, 0)) (by rw [eF, if_pos (.inr (by simpa only [br_iff, need_iff, andB_t, andB_f, orB_t, orB_f, notB_t, notB_f, leI_t, leI_f, ltI_t, ltI_f, eqI_t, eqI_f, leN_t, leN_f, eqN_t, eqN_f, eqS_t, eqS_f, eqB_t, eqB_f, catOk_t, leC_t] using gf))]), fun gf => ?_⟩
      have gw : 0 ≤ p.window := by simpa only [br_iff, need_iff, andB_t, andB_f, orB_t, orB_f, notB_t, notB_f, leI_t, leI_f, ltI_t, ltI_f, eqI_t, eqI_f, leN_t, leN_f, eqN_t, eqN_f, eqS_t, eqS_f, eqB_t, eqB_f, catOk_t, leC_t] using gw
      have gf : ¬ p.file = 0 := by simpa only [br_iff, need_iff, andB_t, andB_f, orB_t, orB_f, notB_t, notB_f, leI_t, leI_f, ltI_t, ltI_f, eqI_t, eqI_f, leN_t, leN_f, eqN_t, eqN_f, eqS_t, eqS_f, eqB_t, eqB_f, catOk_t, leC_t] using gf
      rcases place_at hp with ⟨h1, _⟩ | ⟨i, x, e6, e2, e3, e5, _⟩
      · omega
      rw [if_neg (by omega), e6, e5] at eF
      rw [e6, nd e3, need_tt, kd e3, need_tt]
      refine ⟨x.opens, by rw [pd e2]; rfl, ?_⟩
      rw [br_iff]; refine ⟨fun g => f (r := (⟨nx, f0, l⟩, 22)) (by rw [eF, if_pos (by simpa only [br_iff, need_iff, andB_t, andB_f, orB_t, orB_f, notB_t, notB_f, leI_t, leI_f, ltI_t, ltI_f, eqI_t, eqI_f, leN_t, leN_f, eqN_t, eqN_f, eqS_t, eqS_f, eqB_t, eqB_f, catOk_t, leC_t] using g)]), fun g => ?_⟩
      have g : x.opens < 9007199254740991 := by simpa only [br_iff, need_iff, andB_t, andB_f, orB_t, orB_f, notB_t, notB_f, leI_t, leI_f, ltI_t, ltI_f, eqI_t, eqI_f, leN_t, leN_f, eqN_t, eqN_f, eqS_t, eqS_f, eqB_t, eqB_f, catOk_t, leC_t] using g
      have hx := (soundW_iff x).1 (hR.sound x (List.mem_of_getElem? e2))
      rw [if_neg (by omega)] at eF
      rw [need_iff]; refine ⟨rfl, ?_⟩
      rw [need_iff]; refine ⟨rfl, x.opens, by rw [pd e2]; rfl, ?_⟩
      rw [need_iff]; refine ⟨rfl, ?_⟩
      rw [addI_i64 (by omega) (by omega)]
      rw [need_iff]; refine ⟨rfl, windowV (l.set i { x with opens := x.opens + 1 }), ptd e2 rfl, ?_⟩
      rw [wallS]
      exact f (r := (⟨nx, f0, l.set i { x with opens := x.opens + 1 }⟩, 0)) (by rw [eF]; unfold setW; rw [Int.toNat_natCast])
    have v1 : ¬ (0 ≤ p.window ∧ (wAt l p.window).gone = true) → op_vc_1 nx f0 (windowV l) id m K l p := by
      intro c1
      unfold op_vc_1
      simp only [wall]
      refine ⟨hm1, hm2, ?_⟩
      rw [br_iff]; refine ⟨fun g => f (r := (⟨nx, f0, l⟩, (permF m).2)) (by rw [eF, if_neg c1, if_pos (by simpa only [br_iff, need_iff, andB_t, andB_f, orB_t, orB_f, notB_t, notB_f, leI_t, leI_f, ltI_t, ltI_f, eqI_t, eqI_f, leN_t, leN_f, eqN_t, eqN_f, eqS_t, eqS_f, eqB_t, eqB_f, catOk_t, leC_t] using g)]), fun g2 => ?_⟩
      have g2 : (permF m).2 = 0 := by simpa only [br_iff, need_iff, andB_t, andB_f, orB_t, orB_f, notB_t, notB_f, leI_t, leI_f, ltI_t, ltI_f, eqI_t, eqI_f, leN_t, leN_f, eqN_t, eqN_f, eqS_t, eqS_f, eqB_t, eqB_f, catOk_t, leC_t] using g2
      rw [br_iff]; refine ⟨fun gd => ?_, fun gd => v2 c1 g2 (by simp only [br_iff, need_iff, andB_t, andB_f, orB_t, orB_f, notB_t, notB_f, leI_t, leI_f, ltI_t, ltI_f, eqI_t, eqI_f, leN_t, leN_f, eqN_t, eqN_f, eqS_t, eqS_f, eqB_t, eqB_f, catOk_t, leC_t] at gd; omega)⟩
      have gd : 2147483648 ≤ p.mode := by simpa only [br_iff, need_iff, andB_t, andB_f, orB_t, orB_f, notB_t, notB_f, leI_t, leI_f, ltI_t, ltI_f, eqI_t, eqI_f, leN_t, leN_f, eqN_t, eqN_f, eqS_t, eqS_f, eqB_t, eqB_f, catOk_t, leC_t] using gd
      rw [br_iff]; refine ⟨fun g => f (r := (⟨nx, f0, l⟩, 10)) (by rw [eF, if_neg c1, if_neg (by simp [g2]), if_pos ⟨gd, by simpa only [br_iff, need_iff, andB_t, andB_f, orB_t, orB_f, notB_t, notB_f, leI_t, leI_f, ltI_t, ltI_f, eqI_t, eqI_f, leN_t, leN_f, eqN_t, eqN_f, eqS_t, eqS_f, eqB_t, eqB_f, catOk_t, leC_t] using g⟩]), fun g => v2 c1 g2 (by simp only [br_iff, need_iff, andB_t, andB_f, orB_t, orB_f, notB_t, notB_f, leI_t, leI_f, ltI_t, ltI_f, eqI_t, eqI_f, leN_t, leN_f, eqN_t, eqN_f, eqS_t, eqS_f, eqB_t, eqB_f, catOk_t, leC_t] at g; omega)⟩
    rw [br_iff]; refine ⟨fun gw => ?_, fun gw => v1 (by simp only [br_iff, need_iff, andB_t, andB_f, orB_t, orB_f, notB_t, notB_f, leI_t, leI_f, ltI_t, ltI_f, eqI_t, eqI_f, leN_t, leN_f, eqN_t, eqN_f, eqS_t, eqS_f, eqB_t, eqB_f, catOk_t, leC_t] at gw; omega)⟩
    have gw : 0 ≤ p.window := by simpa only [br_iff, need_iff, andB_t, andB_f, orB_t, orB_f, notB_t, notB_f, leI_t, leI_f, ltI_t, ltI_f, eqI_t, eqI_f, leN_t, leN_f, eqN_t, eqN_f, eqS_t, eqS_f, eqB_t, eqB_f, catOk_t, leC_t] using gw
    rcases place_at hp with ⟨h1, _⟩ | ⟨i, x, e6, e2, e3, e5, _⟩
    · omega
    rw [e6, e5] at v1 eF
    rw [e6, ndL e3, need_tt, kdL e3, need_tt]
    refine ⟨x.gone, by rw [windowV_row e2]; rfl, ?_⟩
    rw [wall, br_iff]
    exact ⟨fun g => f (r := (⟨nx, f0, l⟩, 8)) (by rw [eF, if_pos ⟨by omega, g⟩]), fun g => v1 (by simp [g])⟩
  · exact h.elim
theorem ct_con {n : Nat} (hn : 3 ≤ n) : ConOk (evalF Tryz.prog cfgN n) 37 contCon := by
  intro vs bs K h
  unfold contCon at h
  split at h
  · rename_i nx f0 xs a nm b w d
    obtain ⟨l, rfl, h1, h2, hw, hK⟩ := h
    refine run_of (lp := lpOf []) (by omega) (ct := ctOf [(68, tenCon)]) (fun k hk => ctOf_ok (ctOf_cons (ten_con (by omega)) (ctOf_nil _))) ?_
    rw [ct_vc]
    unfold contF at hK
    dsimp only at hK
    rw [br_iff]; refine ⟨fun g => ⟨h1, h2, by rw [if_pos (by simpa only [br_iff, need_iff, andB_t, andB_f, orB_t, orB_f, notB_t, notB_f, leI_t, leI_f, ltI_t, ltI_f, eqI_t, eqI_f, leN_t, leN_f, eqN_t, eqN_f, eqS_t, eqS_f, eqB_t, eqB_f, catOk_t, leC_t] using g)] at hK; exact hK⟩, fun g => ?_⟩
    rw [if_neg (by simpa only [br_iff, need_iff, andB_t, andB_f, orB_t, orB_f, notB_t, notB_f, leI_t, leI_f, ltI_t, ltI_f, eqI_t, eqI_f, leN_t, leN_f, eqN_t, eqN_f, eqS_t, eqS_f, eqB_t, eqB_f, catOk_t, leC_t] using g)] at hK
    rw [br_iff]; refine ⟨fun g => ?_, fun g => ?_⟩
    · have g : d = 3 := by simpa only [br_iff, need_iff, andB_t, andB_f, orB_t, orB_f, notB_t, notB_f, leI_t, leI_f, ltI_t, ltI_f, eqI_t, eqI_f, leN_t, leN_f, eqN_t, eqN_f, eqS_t, eqS_f, eqB_t, eqB_f, catOk_t, leC_t] using g
      obtain ⟨i, rfl, hi, hl⟩ := hw (.inl g)
      have gx := List.getElem?_eq_getElem hi
      rw [if_pos g, wAt_nat gx] at hK
      rw [ndL hi, need_tt, kdL hi, need_tt]
      exact ⟨_, by rw [windowV_row gx]; rfl, hK⟩
    rw [if_neg (by simpa only [br_iff, need_iff, andB_t, andB_f, orB_t, orB_f, notB_t, notB_f, leI_t, leI_f, ltI_t, ltI_f, eqI_t, eqI_f, leN_t, leN_f, eqN_t, eqN_f, eqS_t, eqS_f, eqB_t, eqB_f, catOk_t, leC_t] using g)] at hK
    rw [br_iff]; refine ⟨fun g => ?_, fun g => ?_⟩
    · have g : d = 4 := by simpa only [br_iff, need_iff, andB_t, andB_f, orB_t, orB_f, notB_t, notB_f, leI_t, leI_f, ltI_t, ltI_f, eqI_t, eqI_f, leN_t, leN_f, eqN_t, eqN_f, eqS_t, eqS_f, eqB_t, eqB_f, catOk_t, leC_t] using g
      obtain ⟨i, rfl, hi, hl⟩ := hw (.inr g)
      have gx := List.getElem?_eq_getElem hi
      rw [if_pos g, wAt_nat gx] at hK
      rw [ndL hi, need_tt, kdL hi, need_tt]
      exact ⟨_, by rw [windowV_row gx]; rfl, hK⟩
    · rw [if_neg (by simpa only [br_iff, need_iff, andB_t, andB_f, orB_t, orB_f, notB_t, notB_f, leI_t, leI_f, ltI_t, ltI_f, eqI_t, eqI_f, leN_t, leN_f, eqN_t, eqN_f, eqS_t, eqS_f, eqB_t, eqB_f, catOk_t, leC_t] using g)] at hK
      exact hK
  · exact h.elim
end Go.Proofs.YtdbbpibfejchfaaGreatDoor
namespace Go.Proofs.YtdbbpibfejchfaaGreatDoor
open Go.RowKit
set_option maxRecDepth 100000
set_option linter.unusedVariables false
set_option linter.unusedSimpArgs false
theorem min_count {c : Int} (h : 0 ≤ c) : 0 ≤ min c 65536 := by omega
theorem cut_off {s : List UInt8} {off : Int} (h : 0 ≤ off) : cutS s (minI off (lenS s)) (lenS s) = s.drop off.toNat := by
  simp only [cutS, lenS, minI, Int.toNat_natCast]
  rcases Int.le_total off (s.length : Int) with h1 | h1
  · rw [Int.min_eq_left h1]
    exact List.take_of_length_le (by simp)
  · rw [Int.min_eq_right h1, List.drop_of_length_le (by omega), List.drop_of_length_le (by omega)]; simp
theorem cut_cnt {s : List UInt8} {c : Int} (h : 0 ≤ c) : cutS s 0 (minI c (lenS s)) = s.take c.toNat := by
  simp only [cutS, lenS, minI, Int.toNat_zero, List.drop_zero, Nat.sub_zero]
  rcases Int.le_total c (s.length : Int) with h1 | h1
  · rw [Int.min_eq_left h1]
  · rw [Int.min_eq_right h1, Int.toNat_natCast, List.take_length, List.take_of_length_le (by omega)]
theorem line_v (x : Window) : sub x.v 2 3 = some [.bool x.line.raw, .str x.line.text, .lst (strV x.line.ready)] := rfl
theorem re_con {n : Nat} (hn : 5 ≤ n) : ConOk (evalF Tryz.prog cfgN n) 14 wreadCon := by
  intro vs bs K h
  unfold wreadCon at h
  split at h
  · rename_i nx f0 xs id off cnt
    obtain ⟨l, rfl, hR, hid, hK⟩ := h
    have hR := (rightW_iff _).1 hR
    have hb := right_small hR
    have hfo := right_focus hR
    have hlen := hb.1
    dsimp only at hlen hfo
    refine run_of (lp := lpOf []) (by omega) (ct := ctOf [(32, wcloneCon), (33, findCon), (36, readCon), (37, contCon), (34, inlC Tryz.prog cfgN (ctOf []) 34), (35, inlC Tryz.prog cfgN (ctOf []) 35)])
      (fun k hk => ctOf_ok (ctOf_cons (wcl_con (by omega)) (ctOf_cons (fnd_con (by omega)) (ctOf_cons (rd_con (by omega)) (ctOf_cons (ct_con (by omega)) (ctOf_cons (inl_ok (by omega) (fun _ _ => noCt_ok _)) (ctOf_cons (inl_ok (by omega) (fun _ _ => noCt_ok _)) (ctOf_nil _)))))))) ?_
    rw [re_vcw]
    have f : ∀ {r}, readW ⟨nx, f0, l⟩ id off cnt = r → K (.tup [.agg [.int .i64 r.1.next, .int .i64 r.1.focus, .lst (windowV r.1.l)], .str r.2.1, .bool r.2.2.1, .int .i64 r.2.2.2]) [] := fun h => by subst h; exact hK
    refine ⟨l, rfl, hb, l, rfl, hlen, hid, fun p hp => ?_, fun hp => ?_⟩
    rotate_left
    · rw [wall]; exact f (r := (⟨nx, f0, l⟩, [], false, 8)) (by unfold readW; simp only [hp])
    have eF : readW ⟨nx, f0, l⟩ id off cnt = if 2147483648 ≤ p.mode then (⟨nx, f0, l⟩, [], false, 10)
        else if off < 0 ∨ cnt < 0 then (⟨nx, f0, l⟩, [], false, 1)
        else if p.file = 1 then
          if (readF (wAt l p.window).line (min cnt 65536)).2.2 = true then (⟨nx, f0, l⟩, [], !(wAt l p.window).gone, 0)
          else (setW ⟨nx, f0, l⟩ p.window { wAt l p.window with line := (readF (wAt l p.window).line (min cnt 65536)).1 }, (readF (wAt l p.window).line (min cnt 65536)).2.1, false, 0)
        else (⟨nx, f0, l⟩, ((contF ⟨nx, f0, l⟩ p).drop off.toNat).take (min cnt 65536).toNat, false, 0) := by
      unfold readW; simp only [hp]
    simp only [wall]
    rw [br_iff]; refine ⟨fun g => f (r := (⟨nx, f0, l⟩, [], false, 10)) (by rw [eF, if_pos (by simpa only [br_iff, need_iff, andB_t, andB_f, orB_t, orB_f, notB_t, notB_f, leI_t, leI_f, ltI_t, ltI_f, eqI_t, eqI_f, leN_t, leN_f, eqN_t, eqN_f, eqS_t, eqS_f, eqB_t, eqB_f, catOk_t, leC_t] using g)]), fun g1 => ?_⟩
    have g1 : p.mode < 2147483648 := by simpa only [br_iff, need_iff, andB_t, andB_f, orB_t, orB_f, notB_t, notB_f, leI_t, leI_f, ltI_t, ltI_f, eqI_t, eqI_f, leN_t, leN_f, eqN_t, eqN_f, eqS_t, eqS_f, eqB_t, eqB_f, catOk_t, leC_t] using g1
    rw [if_neg (by omega)] at eF
    rw [br_iff]; refine ⟨fun g => f (r := (⟨nx, f0, l⟩, [], false, 1)) (by rw [eF, if_pos (.inl (by simpa only [br_iff, need_iff, andB_t, andB_f, orB_t, orB_f, notB_t, notB_f, leI_t, leI_f, ltI_t, ltI_f, eqI_t, eqI_f, leN_t, leN_f, eqN_t, eqN_f, eqS_t, eqS_f, eqB_t, eqB_f, catOk_t, leC_t] using g))]), fun g2 => ?_⟩
    have g2 : 0 ≤ off := by simpa only [br_iff, need_iff, andB_t, andB_f, orB_t, orB_f, notB_t, notB_f, leI_t, leI_f, ltI_t, ltI_f, eqI_t, eqI_f, leN_t, leN_f, eqN_t, eqN_f, eqS_t, eqS_f, eqB_t, eqB_f, catOk_t, leC_t] using g2
    rw [br_iff]; refine ⟨fun g => f (r := (⟨nx, f0, l⟩, [], false, 1)) (by rw [eF, if_pos (.inr (by simpa only [br_iff, need_iff, andB_t, andB_f, orB_t, orB_f, notB_t, notB_f, leI_t, leI_f, ltI_t, ltI_f, eqI_t, eqI_f, leN_t, leN_f, eqN_t, eqN_f, eqS_t, eqS_f, eqB_t, eqB_f, catOk_t, leC_t] using g))]), fun g3 => ?_⟩
    have g3 : 0 ≤ cnt := by simpa only [br_iff, need_iff, andB_t, andB_f, orB_t, orB_f, notB_t, notB_f, leI_t, leI_f, ltI_t, ltI_f, eqI_t, eqI_f, leN_t, leN_f, eqN_t, eqN_f, eqS_t, eqS_f, eqB_t, eqB_f, catOk_t, leC_t] using g3
    rw [if_neg (by omega)] at eF
    have rest : p.file ≠ 1 → re_vcw_1 nx f0 (windowV l) id off cnt K p l := by
      intro hf
      rw [if_neg hf] at eF
      unfold re_vcw_1
      simp only [wall]
      have hin : inW l p.window p.file := by
        intro hd
        rcases place_at hp with ⟨h1, h2, _⟩ | ⟨i, x, e6, e2, e3, e5, _⟩
        · omega
        · exact ⟨i, e6, e3, hlen⟩
      refine ⟨l, rfl, by omega, by omega, hin, ?_⟩
      have ep : (⟨p.id, p.name, p.mode, p.window, p.file⟩ : Place) = p := rfl
      rw [ep]
      generalize hc : contF ⟨nx, f0, l⟩ p = c at eF ⊢
      rw [cut_off g2]
      have hm : minI cnt 65536 = min cnt 65536 := rfl
      rw [hm, cut_cnt (by omega)]
      rw [need_iff]; refine ⟨by simp only [br_iff, need_iff, andB_t, andB_f, orB_t, orB_f, notB_t, notB_f, leI_t, leI_f, ltI_t, ltI_f, eqI_t, eqI_f, leN_t, leN_f, eqN_t, eqN_f, eqS_t, eqS_f, eqB_t, eqB_f, catOk_t, leC_t, minI, lenS]; omega, ?_⟩
      rw [need_iff]; refine ⟨by simp only [br_iff, need_iff, andB_t, andB_f, orB_t, orB_f, notB_t, notB_f, leI_t, leI_f, ltI_t, ltI_f, eqI_t, eqI_f, leN_t, leN_f, eqN_t, eqN_f, eqS_t, eqS_f, eqB_t, eqB_f, catOk_t, leC_t, minI, lenS]; omega, ?_⟩
      exact f (r := (⟨nx, f0, l⟩, (c.drop off.toNat).take (min cnt 65536).toNat, false, 0)) eF
    rw [br_iff]; refine ⟨fun gw => ?_, fun gw => rest ?_⟩
    rotate_left
    · have gw : p.window < 0 := by simpa only [br_iff, need_iff, andB_t, andB_f, orB_t, orB_f, notB_t, notB_f, leI_t, leI_f, ltI_t, ltI_f, eqI_t, eqI_f, leN_t, leN_f, eqN_t, eqN_f, eqS_t, eqS_f, eqB_t, eqB_f, catOk_t, leC_t] using gw
      rcases place_at hp with ⟨h1, h2, _⟩ | ⟨i, x, e6, _⟩ <;> omega
    rw [br_iff]; refine ⟨fun _ => ?_, fun g => rest (by simp only [br_iff, need_iff, andB_t, andB_f, orB_t, orB_f, notB_t, notB_f, leI_t, leI_f, ltI_t, ltI_f, eqI_t, eqI_f, leN_t, leN_f, eqN_t, eqN_f, eqS_t, eqS_f, eqB_t, eqB_f, catOk_t, leC_t] at g; omega)⟩
    rw [br_iff]; refine ⟨fun g => ?_, fun g => rest (by simpa only [br_iff, need_iff, andB_t, andB_f, orB_t, orB_f, notB_t, notB_f, leI_t, leI_f, ltI_t, ltI_f, eqI_t, eqI_f, leN_t, leN_f, eqN_t, eqN_f, eqS_t, eqS_f, eqB_t, eqB_f, catOk_t, leC_t] using g)⟩
    have g : p.file = 1 := by simpa only [br_iff, need_iff, andB_t, andB_f, orB_t, orB_f, notB_t, notB_f, leI_t, leI_f, ltI_t, ltI_f, eqI_t, eqI_f, leN_t, leN_f, eqN_t, eqN_f, eqS_t, eqS_f, eqB_t, eqB_f, catOk_t, leC_t] using g
    rcases place_at hp with ⟨h1, h2, _⟩ | ⟨i, x, e6, e2, e3, e5, _⟩
    · omega
    rw [if_pos g, e6, e5] at eF
    have hx := sound_line (hR.sound x (List.mem_of_getElem? e2))
    rw [e6, nd e3, need_tt, kd e3, need_tt]
    refine ⟨x.line.raw, x.line.text, strV x.line.ready, by rw [pd e2]; rfl, x.line.ready, rfl, hx, ?_⟩
    rw [show (⟨x.line.raw, x.line.text, x.line.ready⟩ : Line) = x.line from rfl, show minI cnt 65536 = min cnt 65536 from rfl]
    rw [br_iff]; refine ⟨fun q => ?_, fun q => ?_⟩
    · rw [if_pos q] at eF
      rw [need_iff]; refine ⟨rfl, ?_⟩
      rw [need_iff]; refine ⟨rfl, x.gone, by rw [pd e2]; rfl, ?_⟩
      exact f (r := (⟨nx, f0, l⟩, [], !x.gone, 0)) eF
    · rw [if_neg (by rw [q]; simp)] at eF
      rw [need_iff]; refine ⟨rfl, ?_⟩
      rw [need_iff]; refine ⟨rfl, windowV (l.set i { x with line := (readF x.line (min cnt 65536)).1 }), ptd e2 rfl, ?_⟩
      rw [wallS]
      exact f (r := (⟨nx, f0, l.set i { x with line := (readF x.line (min cnt 65536)).1 }⟩, (readF x.line (min cnt 65536)).2.1, false, 0)) (by rw [eF]; unfold setW; rw [Int.toNat_natCast])
  · exact h.elim
theorem cmd_con {n : Nat} (hn : 1 ≤ n) : ConOk (evalF Tryz.prog cfgN n) 76 cmdCon := by
  intro vs bs K h
  unfold cmdCon at h
  split at h
  · rename_i s
    obtain ⟨hb, hK⟩ := h
    refine run_of (lp := lpOf []) hn (fun k _ => noCt_ok _) ?_
    rw [cmd_vc]
    rw [br_iff]; refine ⟨fun g => ?_, fun g => ?_⟩
    · have g : 0 < s.length := by simp only [br_iff, need_iff, andB_t, andB_f, orB_t, orB_f, notB_t, notB_f, leI_t, leI_f, ltI_t, ltI_f, eqI_t, eqI_f, leN_t, leN_f, eqN_t, eqN_f, eqS_t, eqS_f, eqB_t, eqB_f, catOk_t, leC_t, lenS] at g; omega
      obtain ⟨t, c, rfl⟩ : ∃ t c, s = t ++ [c] := ⟨s.dropLast, s.getLast (by intro h; rw [h] at g; simp at g), (List.dropLast_concat_getLast _).symm⟩
      rw [List.length_append, List.length_singleton] at hb
      have e1 : subI .i64 (lenS (t ++ [c])) 1 = (t.length : Int) := by
        rw [subI_i64 (by unfold lenS; simp) (by unfold lenS; simp; omega)]
        unfold lenS; simp
      have hl : lenS (t ++ [c]) = (t.length : Int) + 1 := by unfold lenS; simp
      have e2 : atS (t ++ [c]) (t.length : Int) = (c.toNat : Int) := by
        rw [atS_at (by simp)]; simp
      have e3 : cutS (t ++ [c]) 0 (t.length : Int) = t := by simp [cutS]
      rw [e1, e2, e3, hl]
      rw [need_iff]; refine ⟨by simp only [br_iff, need_iff, andB_t, andB_f, orB_t, orB_f, notB_t, notB_f, leI_t, leI_f, ltI_t, ltI_f, eqI_t, eqI_f, leN_t, leN_f, eqN_t, eqN_f, eqS_t, eqS_f, eqB_t, eqB_f, catOk_t, leC_t]; omega, ?_⟩
      have ec : cmdF (t ++ [c]) = if c = 10 then t else t ++ [c] := by
        unfold cmdF
        simp
      rw [ec] at hK
      rw [br_iff]; refine ⟨fun q => ?_, fun q => ?_⟩
      · have q : c = 10 := UInt8.toNat_inj.1 (by have : (c.toNat : Int) = 10 := by simpa only [br_iff, need_iff, andB_t, andB_f, orB_t, orB_f, notB_t, notB_f, leI_t, leI_f, ltI_t, ltI_f, eqI_t, eqI_f, leN_t, leN_f, eqN_t, eqN_f, eqS_t, eqS_f, eqB_t, eqB_f, catOk_t, leC_t] using q
                                                 show c.toNat = 10; omega)
        rw [if_pos q] at hK
        rw [need_iff]; exact ⟨by simp only [br_iff, need_iff, andB_t, andB_f, orB_t, orB_f, notB_t, notB_f, leI_t, leI_f, ltI_t, ltI_f, eqI_t, eqI_f, leN_t, leN_f, eqN_t, eqN_f, eqS_t, eqS_f, eqB_t, eqB_f, catOk_t, leC_t]; omega, hK⟩
      · have q : ¬ c = 10 := by rintro rfl; simp [eqI] at q
        rw [if_neg q] at hK; exact hK
    · have g : s = [] := List.length_eq_zero_iff.1 (by simp only [br_iff, need_iff, andB_t, andB_f, orB_t, orB_f, notB_t, notB_f, leI_t, leI_f, ltI_t, ltI_f, eqI_t, eqI_f, leN_t, leN_f, eqN_t, eqN_f, eqS_t, eqS_f, eqB_t, eqB_f, catOk_t, leC_t, lenS] at g; omega)
      subst g
      exact hK
  · exact h.elim
theorem cmdF_len (s : List UInt8) : (cmdF s).length ≤ s.length := by
  unfold cmdF
  split
  · simp
  · omega
theorem numF_parse (s : List UInt8) : parseF s 10 1048575 = match numF s with
    | some n => .tup [.int .i64 n, .int .i64 0]
    | none => .tup [.int .i64 0, .int .i64 5] := by
  unfold parseF numF
  rw [if_neg (by omega)]
  by_cases h : s = [] ∨ (1 < s.length ∧ s.head? = some 48)
  · rw [if_pos h, if_pos h]
  · rw [if_neg h, if_neg h]
    cases parseGo 10 1048575 s 0 <;> rfl
theorem num_con {n : Nat} (hn : 2 ≤ n) : ConOk (evalF Tryz.prog cfgN n) 75 numCon := by
  intro vs bs K h
  unfold numCon at h
  split at h
  · rename_i s
    obtain ⟨hb, hY, hN⟩ := h
    obtain ⟨r, out, e, rfl, rfl⟩ := pa_run (b := 10) (most := 1048575) hn hb (by omega) (by omega)
    refine ⟨_, _, e, ?_⟩
    rw [numF_parse]
    cases hq : numF s with
    | none => exact hN hq
    | some m => exact hY m hq
  · exact h.elim
theorem rf_con {n : Nat} (hn : 5 ≤ n) : ConOk (evalF Tryz.prog cfgN n) 41 refocusCon := by
  intro vs bs K h
  unfold refocusCon at h
  split at h
  · rename_i nx f0 xs s
    obtain ⟨l, rfl, hb, hs, hK⟩ := h
    refine run_of (lp := lpOf []) (by omega) (ct := ctOf [(32, wcloneCon), (76, cmdCon), (75, numCon), (20, focusCon)])
      (fun k hk => ctOf_ok (ctOf_cons (wcl_con (by omega)) (ctOf_cons (cmd_con (by omega)) (ctOf_cons (num_con (by omega)) (ctOf_cons (fo_con (by omega)) (ctOf_nil _)))))) ?_
    rw [rf_vc]
    have hc := cmdF_len s
    have f : ∀ {r}, refocusF ⟨nx, f0, l⟩ s = r → K (.tup [.agg [.int .i64 r.1.next, .int .i64 r.1.focus, .lst (windowV r.1.l)], .int .i64 r.2.1, .int .i64 r.2.2]) [] := fun h => by subst h; exact hK
    refine ⟨hs, by omega, fun m hm => ⟨l, rfl, hb, ?_⟩, fun hm => ⟨l, rfl, hb, ?_⟩⟩
    · have eF : refocusF ⟨nx, f0, l⟩ s = if seenW l m = true then (⟨nx, m, l⟩, (s.length : Int), 0) else (⟨nx, f0, l⟩, 0, 8) := by unfold refocusF; simp only [hm]
      unfold focusF
      by_cases hsn : seenW l m = true
      · rw [if_pos hsn] at eF
        rw [if_pos hsn]
        exact f eF
      · rw [if_neg hsn] at eF
        rw [if_neg hsn]
        exact f eF
    · rw [wall]
      exact f (r := (⟨nx, f0, l⟩, 0, 5)) (by unfold refocusF; simp only [hm])
  · exact h.elim
end Go.Proofs.YtdbbpibfejchfaaGreatDoor
namespace Go.Proofs.YtdbbpibfejchfaaGreatDoor
open Go.RowKit
set_option maxRecDepth 100000
set_option linter.unusedVariables false
set_option linter.unusedSimpArgs false
theorem lastF_app (l : List Window) (x : Window) : lastF (l ++ [x]) = if x.gone = true then lastF l else x.id := by
  unfold lastF
  rw [List.foldl_append]; rfl
theorem lastF_step {l : List Window} {k : Nat} {x : Window} (h : l[k]? = some x) : lastF (l.take (k + 1)) = if x.gone = true then lastF (l.take k) else x.id := by
  obtain ⟨h1, rfl⟩ := List.getElem?_eq_some_iff.1 h
  rw [List.take_succ_eq_append_getElem h1, lastF_app]
theorem app_row {L : List Window} {zs : List (List V)} {k : Nat} {x : Window} (h : L[k]? = some x) : (windowV L ++ zs)[k]? = some x.v := by
  have hk := (List.getElem?_eq_some_iff.1 h).1
  rw [List.getElem?_append_left (by rw [windowV_len]; exact hk), windowV_get, h]; rfl
theorem app_ok {L : List Window} {zs : List (List V)} {k : Nat} {x : Window} (h : L[k]? = some x) : okRow (windowV L ++ zs) (0 + (k : Int).toNat) 8 = true := by
  rw [Nat.zero_add, Int.toNat_natCast]; unfold okRow; rw [app_row h]; rfl
theorem app_part {L : List Window} {zs : List (List V)} {k : Nat} {x : Window} (h : L[k]? = some x) (o n : Nat) : partAt (windowV L ++ zs) (0 + (k : Int).toNat) o n = sub x.v o n := by
  rw [Nat.zero_add, Int.toNat_natCast]; unfold partAt; rw [app_row h]; rfl
def ddI (c : ddC) (x : ddX) (m : Nat) : Prop := ∃ (L : List Window) (zs : List (List V)) (k : Nat), c.ys = windowV L ++ zs ∧ c.ca = L.length ∧ x = ⟨lastF (L.take k), (k : Int)⟩ ∧ k + m = L.length
theorem ddI_open {c : ddC} {x : ddX} {m : Nat} {L : List Window} {zs : List (List V)} (h : ddI c x m) (h1 : c.ys = windowV L ++ zs) (h2 : c.ca = L.length) : ∃ k : Nat, x = ⟨lastF (L.take k), (k : Int)⟩ ∧ k + m = L.length := by
  obtain ⟨L', zs', k, e1, e2, e3, e4⟩ := h
  have hl : L'.length = L.length := by omega
  have := List.append_inj (e1.symm.trans h1) (by rw [windowV_len, windowV_len, hl])
  obtain rfl := windowV_inj.1 this.1
  exact ⟨k, e3, e4⟩
theorem dd_con {n : Nat} (hn : 2 ≤ n) : ConOk (evalF Tryz.prog cfgN n) 78 deletedCon := by
  intro vs bs K h
  unfold deletedCon at h
  split at h
  · rename_i nx f0 c' k' i ys
    obtain ⟨l, j, rfl, rfl, rfl, rfl, hj, hb, hK⟩ := h
    refine run_of (lp := lpOf [(9, ddL fun c _ x m => ddI c x m)]) (by omega) (ct := ctOf [(45, delCon)]) (fun k hk => ctOf_ok (ctOf_cons (del_con (by omega)) (ctOf_nil _))) ?_
    refine cast (dd_vc nx f0 l j (fun c _ x m => ddI c x m) K).symm ?_
    have gx := List.getElem?_eq_getElem hj
    generalize l[j] = x at gx
    have hnd : andB true (ltI (Int.ofNat j) (Int.ofNat l.length)) = true := by simp only [andB_tt, br_iff, need_iff, andB_t, andB_f, orB_t, orB_f, notB_t, notB_f, leI_t, leI_f, ltI_t, ltI_f, eqI_t, eqI_f, leN_t, leN_f, eqN_t, eqN_f, eqS_t, eqS_f, eqB_t, eqB_f, catOk_t, leC_t, Int.ofNat_eq_natCast]; omega
    have hkd : okRow (windowV l) (0 + (Int.ofNat j).toNat) 8 = true := kd hj
    have eF : deletedF ⟨nx, f0, l⟩ (j : Int) = if f0 ≠ x.id then (if 0 < x.opens then ⟨nx, f0, l.set j { x with gone := true }⟩ else ⟨nx, f0, l.eraseIdx j⟩)
        else ⟨nx, lastF (if 0 < x.opens then l.set j { x with gone := true } else l.eraseIdx j), if 0 < x.opens then l.set j { x with gone := true } else l.eraseIdx j⟩ := by
      unfold deletedF setW delW
      simp only [wAt_nat gx, Int.toNat_natCast]
      by_cases h1 : f0 ≠ x.id
      · rw [if_pos h1, if_pos h1]
      · rw [if_neg h1, if_neg h1]
        by_cases h2 : 0 < x.opens
        · simp only [if_pos h2]
        · simp only [if_neg h2]
    have f : ∀ {r : Windows}, deletedF ⟨nx, f0, l⟩ (j : Int) = r → ∀ (m : Nat) (zs : List (List V)), K (.agg [.int .i64 r.next, .int .i64 r.focus, .ref 0 0 r.l.length m]) [⟨true, false, true, windowV r.l ++ zs, 0⟩] := fun h => by subst h; exact hK
    rw [hnd, need_tt, hkd, need_tt]
    refine ⟨x.id, by rw [show Int.ofNat j = (j : Int) from rfl, pd gx]; rfl, ?_⟩
    rw [need_tt, need_tt]
    refine ⟨x.opens, by rw [show Int.ofNat j = (j : Int) from rfl, pd gx]; rfl, ?_⟩
    rw [br_iff]; refine ⟨fun ho => ?_, fun ho => ?_⟩
    · have ho : 0 < x.opens := by simpa only [br_iff, need_iff, andB_t, andB_f, orB_t, orB_f, notB_t, notB_f, leI_t, leI_f, ltI_t, ltI_f, eqI_t, eqI_f, leN_t, leN_f, eqN_t, eqN_f, eqS_t, eqS_f, eqB_t, eqB_f, catOk_t, leC_t] using ho
      simp only [if_pos ho] at eF
      rw [need_tt, need_tt]
      refine ⟨windowV (l.set j { x with gone := true }), ptd gx rfl, ?_⟩
      have hL : (l.set j { x with gone := true }).length = l.length := List.length_set
      generalize l.set j { x with gone := true } = L at eF hL ⊢
      rw [br_iff]; refine ⟨fun g => ?_, fun g => ?_⟩
      · rw [if_pos (by simpa only [br_iff, need_iff, andB_t, andB_f, orB_t, orB_f, notB_t, notB_f, leI_t, leI_f, ltI_t, ltI_f, eqI_t, eqI_f, leN_t, leN_f, eqN_t, eqN_f, eqS_t, eqS_f, eqB_t, eqB_f, catOk_t, leC_t] using g)] at eF
        have := f eF l.length []
        rw [List.append_nil] at this
        dsimp only at this
        rw [hL] at this
        exact this
      · rw [if_neg (by simp only [br_iff, need_iff, andB_t, andB_f, orB_t, orB_f, notB_t, notB_f, leI_t, leI_f, ltI_t, ltI_f, eqI_t, eqI_f, leN_t, leN_f, eqN_t, eqN_f, eqS_t, eqS_f, eqB_t, eqB_f, catOk_t, leC_t] at g; simpa using g)] at eF
        refine ⟨⟨L.length, by omega, L, [], 0, by rw [List.append_nil], by dsimp only; omega, rfl, by omega⟩, ?_⟩
        intro x9 m hI
        obtain ⟨k, rfl, hk⟩ := ddI_open (L := L) (zs := []) hI (by rw [List.append_nil]) (by dsimp only; omega)
        dsimp only
        rw [br_iff]; refine ⟨fun q => ?_, fun q => ?_⟩
        · have hlt : k < L.length := by simp only [br_iff, need_iff, andB_t, andB_f, orB_t, orB_f, notB_t, notB_f, leI_t, leI_f, ltI_t, ltI_f, eqI_t, eqI_f, leN_t, leN_f, eqN_t, eqN_f, eqS_t, eqS_f, eqB_t, eqB_f, catOk_t, leC_t, Int.ofNat_eq_natCast] at q; omega
          have gy := List.getElem?_eq_getElem hlt
          generalize L[k] = y at gy
          rw [need_iff]; refine ⟨by simp only [br_iff, need_iff, andB_t, andB_f, orB_t, orB_f, notB_t, notB_f, leI_t, leI_f, ltI_t, ltI_f, eqI_t, eqI_f, leN_t, leN_f, eqN_t, eqN_f, eqS_t, eqS_f, eqB_t, eqB_f, catOk_t, leC_t, Int.ofNat_eq_natCast]; omega, ?_⟩
          rw [need_iff]; refine ⟨kd hlt, y.id, y.label, y.line.raw, y.line.text, strV y.line.ready, y.text, y.opens, y.gone, by rw [pd gy]; rfl, ?_⟩
          have ek : addI .i64 (k : Int) 1 = ((k + 1 : Nat) : Int) := by rw [addI_i64 (by omega) (by omega)]; rfl
          have hs := lastF_step gy
          rw [ek, br_iff]
          refine ⟨fun w => ⟨by trivial, m - 1, by omega, L, [], k + 1, by rw [List.append_nil], by dsimp only; omega, ?_, by omega⟩, fun w => ⟨by trivial, m - 1, by omega, L, [], k + 1, by rw [List.append_nil], by dsimp only; omega, ?_, by omega⟩⟩
          · simp only [notB, Bool.not_eq_true'] at w
            rw [hs, w]; rfl
          · simp only [notB, Bool.not_eq_false'] at w
            rw [hs, w]; rfl
        · have hk2 : k = L.length := by simp only [br_iff, need_iff, andB_t, andB_f, orB_t, orB_f, notB_t, notB_f, leI_t, leI_f, ltI_t, ltI_f, eqI_t, eqI_f, leN_t, leN_f, eqN_t, eqN_f, eqS_t, eqS_f, eqB_t, eqB_f, catOk_t, leC_t, Int.ofNat_eq_natCast] at q; omega
          rw [hk2, List.take_length]
          have := f eF l.length []
          rw [List.append_nil] at this
          dsimp only at this
          rw [hL] at this
          exact this
    · have ho : ¬ 0 < x.opens := by simp only [br_iff, need_iff, andB_t, andB_f, orB_t, orB_f, notB_t, notB_f, leI_t, leI_f, ltI_t, ltI_f, eqI_t, eqI_f, leN_t, leN_f, eqN_t, eqN_f, eqS_t, eqS_f, eqB_t, eqB_f, catOk_t, leC_t] at ho; omega
      simp only [if_neg ho] at eF
      have hL : (l.eraseIdx j).length = l.length - 1 := List.length_eraseIdx_of_lt hj
      refine ⟨l, j, rfl, rfl, rfl, rfl, by rw [addI_i64 (by simp only [Int.ofNat_eq_natCast]; omega) (by simp only [Int.ofNat_eq_natCast]; omega)], hj, by omega, fun zs => ?_⟩
      generalize l.eraseIdx j = L at eF hL ⊢
      rw [br_iff]; refine ⟨fun g => ?_, fun g => ?_⟩
      · rw [if_pos (by simpa only [br_iff, need_iff, andB_t, andB_f, orB_t, orB_f, notB_t, notB_f, leI_t, leI_f, ltI_t, ltI_f, eqI_t, eqI_f, leN_t, leN_f, eqN_t, eqN_f, eqS_t, eqS_f, eqB_t, eqB_f, catOk_t, leC_t] using g)] at eF
        have := f eF l.length zs
        dsimp only at this
        rw [hL] at this
        exact this
      · rw [if_neg (by simp only [br_iff, need_iff, andB_t, andB_f, orB_t, orB_f, notB_t, notB_f, leI_t, leI_f, ltI_t, ltI_f, eqI_t, eqI_f, leN_t, leN_f, eqN_t, eqN_f, eqS_t, eqS_f, eqB_t, eqB_f, catOk_t, leC_t] at g; simpa using g)] at eF
        refine ⟨⟨L.length, by omega, L, zs, 0, rfl, by dsimp only; omega, rfl, by omega⟩, ?_⟩
        intro x9 m hI
        obtain ⟨k, rfl, hk⟩ := ddI_open (L := L) (zs := zs) hI rfl (by dsimp only; omega)
        dsimp only
        rw [br_iff]; refine ⟨fun q => ?_, fun q => ?_⟩
        · have hlt : k < L.length := by simp only [br_iff, need_iff, andB_t, andB_f, orB_t, orB_f, notB_t, notB_f, leI_t, leI_f, ltI_t, ltI_f, eqI_t, eqI_f, leN_t, leN_f, eqN_t, eqN_f, eqS_t, eqS_f, eqB_t, eqB_f, catOk_t, leC_t, Int.ofNat_eq_natCast] at q; omega
          have gy := List.getElem?_eq_getElem hlt
          generalize L[k] = y at gy
          rw [need_iff]; refine ⟨by simp only [br_iff, need_iff, andB_t, andB_f, orB_t, orB_f, notB_t, notB_f, leI_t, leI_f, ltI_t, ltI_f, eqI_t, eqI_f, leN_t, leN_f, eqN_t, eqN_f, eqS_t, eqS_f, eqB_t, eqB_f, catOk_t, leC_t, Int.ofNat_eq_natCast]; omega, ?_⟩
          rw [need_iff]; refine ⟨app_ok gy, y.id, y.label, y.line.raw, y.line.text, strV y.line.ready, y.text, y.opens, y.gone, by rw [app_part gy]; rfl, ?_⟩
          have ek : addI .i64 (k : Int) 1 = ((k + 1 : Nat) : Int) := by rw [addI_i64 (by omega) (by omega)]; rfl
          have hs := lastF_step gy
          rw [ek, br_iff]
          refine ⟨fun w => ⟨by trivial, m - 1, by omega, L, zs, k + 1, rfl, by dsimp only; omega, ?_, by omega⟩, fun w => ⟨by trivial, m - 1, by omega, L, zs, k + 1, rfl, by dsimp only; omega, ?_, by omega⟩⟩
          · simp only [notB, Bool.not_eq_true'] at w
            rw [hs, w]; rfl
          · simp only [notB, Bool.not_eq_false'] at w
            rw [hs, w]; rfl
        · have hk2 : k = L.length := by simp only [br_iff, need_iff, andB_t, andB_f, orB_t, orB_f, notB_t, notB_f, leI_t, leI_f, ltI_t, ltI_f, eqI_t, eqI_f, leN_t, leN_f, eqN_t, eqN_f, eqS_t, eqS_f, eqB_t, eqB_f, catOk_t, leC_t, Int.ofNat_eq_natCast] at q; omega
          rw [hk2, List.take_length]
          have := f eF l.length zs
          dsimp only at this
          rw [hL] at this
          exact this
  · exact h.elim
theorem co_conw {n : Nat} (hn : 3 ≤ n) : ConOk (evalF Tryz.prog cfgN n) 42 controlCon := by
  intro vs bs K h
  unfold controlCon at h
  split at h
  · rename_i nx f0 c' k' a nm b w d s ys
    obtain ⟨l, j, rfl, rfl, rfl, rfl, hj, hR, hs, hK⟩ := h
    have hR := (rightW_iff _).1 hR
    have hb := (right_small hR).1
    dsimp only at hb
    refine run_of (lp := lpOf []) (by omega) (ct := ctOf [(76, cmdCon), (77, setRawCon), (78, deletedCon)])
      (fun k hk => ctOf_ok (ctOf_cons (cmd_con (by omega)) (ctOf_cons (sr_con (by omega)) (ctOf_cons (dd_con (by omega)) (ctOf_nil _))))) ?_
    rw [co_vcw]
    have gx := List.getElem?_eq_getElem hj
    generalize l[j] = x at gx
    have hx := sound_line (hR.sound x (List.mem_of_getElem? gx))
    generalize hc : cmdF s = c at hK ⊢
    have eF : controlF ⟨nx, f0, l⟩ (j : Int) d c = if d = 2 ∧ c = [114, 97, 119, 111, 110] then (⟨nx, f0, l.set j { x with line := setRawF x.line true }⟩, 0)
        else if d = 2 ∧ c = [114, 97, 119, 111, 102, 102] then (⟨nx, f0, l.set j { x with line := setRawF x.line false }⟩, 0)
        else if d ≠ 2 ∧ c = [102, 111, 99, 117, 115] then (⟨nx, x.id, l⟩, 0)
        else if d ≠ 2 ∧ c = [100, 101, 108, 101, 116, 101] then (deletedF ⟨nx, f0, l⟩ (j : Int), 0)
        else (⟨nx, f0, l⟩, 54) := by
      unfold controlF setW
      simp only [wAt_nat gx, Int.toNat_natCast]
    have f : ∀ {r : Windows × Int}, controlF ⟨nx, f0, l⟩ (j : Int) d c = r → ∀ (m : Nat) (zs : List (List V)), K (.tup [.agg [.int .i64 r.1.next, .int .i64 r.1.focus, .ref 0 0 r.1.l.length m], .int .i64 r.2]) [⟨true, false, true, windowV r.1.l ++ zs, 0⟩] := fun h => by subst h; exact hK
    have fz : ∀ {r : Windows × Int}, controlF ⟨nx, f0, l⟩ (j : Int) d c = r → r.1.l.length = l.length → K (.tup [.agg [.int .i64 r.1.next, .int .i64 r.1.focus, .ref 0 0 l.length l.length], .int .i64 r.2]) [⟨true, false, true, windowV r.1.l, 0⟩] := fun h e => by
      have := f h l.length []
      rw [e, List.append_nil] at this
      exact this
    have raw : ∀ v : Bool, controlF ⟨nx, f0, l⟩ (j : Int) d c = (⟨nx, f0, l.set j { x with line := setRawF x.line v }⟩, 0) → need (andB (leI 0 (j : Int)) (ltI (j : Int) (Int.ofNat l.length))) (need (okRow (windowV l) (0 + (j : Int).toNat) 8)
        (∃ b10 : Bool, ∃ s11 : List UInt8, ∃ xs12 : List (List V), ((partAt (windowV l) (0 + (j : Int).toNat) 2 3 : Option (List V)) = some [V.bool b10, V.str s11, V.lst xs12]) ∧ (
          ∃ l13 : List (List UInt8), ((xs12 : List (List V)) = strV l13) ∧ ((rightL (Line.mk b10 s11 l13) : Bool) = true) ∧ (
          need (andB (leI 0 (j : Int)) (ltI (j : Int) (Int.ofNat l.length))) (need (okRow (windowV l) (0 + (j : Int).toNat) 8) (
          ∃ xs14 : List (List V), ((putAt (windowV l) (0 + (j : Int).toNat) 2 [V.bool (setRawF (Line.mk b10 s11 l13) v).1, V.str (setRawF (Line.mk b10 s11 l13) v).2, V.lst (strV (setRawF (Line.mk b10 s11 l13) v).3)] : Option (List (List V))) = some xs14) ∧ (
          K (V.tup [V.agg [V.int IntKind.i64 nx, V.int IntKind.i64 f0, V.ref 0 0 l.length l.length], V.int IntKind.i64 0]) [Bk.mk true false true xs14 0]))))))) := by
      intro v hv
      rw [nd hj, need_tt, kd hj, need_tt]
      refine ⟨x.line.raw, x.line.text, strV x.line.ready, by rw [pd gx]; rfl, x.line.ready, rfl, hx, ?_⟩
      rw [need_iff]; refine ⟨rfl, ?_⟩
      rw [need_iff]; refine ⟨rfl, windowV (l.set j { x with line := setRawF x.line v }), ptd gx rfl, ?_⟩
      exact fz hv (by simp)
    refine ⟨hs, ?_⟩
    have v3 : ¬ (d = 2 ∧ c = [114, 97, 119, 111, 110]) → ¬ (d = 2 ∧ c = [114, 97, 119, 111, 102, 102]) → ¬ (d ≠ 2 ∧ c = [102, 111, 99, 117, 115]) → co_vcw_3 nx f0 l a nm b (j : Int) d s K := by
      intro c1 c2 c3
      rw [if_neg c1, if_neg c2, if_neg c3] at eF
      unfold co_vcw_3
      rw [hc]
      rw [br_iff]; refine ⟨fun g => ?_, fun g => fz (by rw [eF, if_neg (by simp only [br_iff, need_iff, andB_t, andB_f, orB_t, orB_f, notB_t, notB_f, leI_t, leI_f, ltI_t, ltI_f, eqI_t, eqI_f, leN_t, leN_f, eqN_t, eqN_f, eqS_t, eqS_f, eqB_t, eqB_f, catOk_t, leC_t] at g; simp [g])]) rfl⟩
      have g : d ≠ 2 := by simpa only [br_iff, need_iff, andB_t, andB_f, orB_t, orB_f, notB_t, notB_f, leI_t, leI_f, ltI_t, ltI_f, eqI_t, eqI_f, leN_t, leN_f, eqN_t, eqN_f, eqS_t, eqS_f, eqB_t, eqB_f, catOk_t, leC_t] using g
      rw [br_iff]; refine ⟨fun q => ?_, fun q => fz (by rw [eF, if_neg (by simp only [br_iff, need_iff, andB_t, andB_f, orB_t, orB_f, notB_t, notB_f, leI_t, leI_f, ltI_t, ltI_f, eqI_t, eqI_f, leN_t, leN_f, eqN_t, eqN_f, eqS_t, eqS_f, eqB_t, eqB_f, catOk_t, leC_t] at q; simp [q])]) rfl⟩
      have q : c = [100, 101, 108, 101, 116, 101] := by simpa only [br_iff, need_iff, andB_t, andB_f, orB_t, orB_f, notB_t, notB_f, leI_t, leI_f, ltI_t, ltI_f, eqI_t, eqI_f, leN_t, leN_f, eqN_t, eqN_f, eqS_t, eqS_f, eqB_t, eqB_f, catOk_t, leC_t] using q
      rw [if_pos ⟨g, q⟩] at eF
      exact ⟨l, j, rfl, rfl, rfl, rfl, hj, hb, f eF⟩
    have v2 : ¬ (d = 2 ∧ c = [114, 97, 119, 111, 110]) → ¬ (d = 2 ∧ c = [114, 97, 119, 111, 102, 102]) → co_vcw_2 nx f0 l a nm b (j : Int) d s K := by
      intro c1 c2
      unfold co_vcw_2
      rw [hc]
      rw [br_iff]; refine ⟨fun g => ?_, fun g => v3 c1 c2 (by simp only [br_iff, need_iff, andB_t, andB_f, orB_t, orB_f, notB_t, notB_f, leI_t, leI_f, ltI_t, ltI_f, eqI_t, eqI_f, leN_t, leN_f, eqN_t, eqN_f, eqS_t, eqS_f, eqB_t, eqB_f, catOk_t, leC_t] at g; simp [g])⟩
      have g : d ≠ 2 := by simpa only [br_iff, need_iff, andB_t, andB_f, orB_t, orB_f, notB_t, notB_f, leI_t, leI_f, ltI_t, ltI_f, eqI_t, eqI_f, leN_t, leN_f, eqN_t, eqN_f, eqS_t, eqS_f, eqB_t, eqB_f, catOk_t, leC_t] using g
      rw [br_iff]; refine ⟨fun q => ?_, fun q => v3 c1 c2 (by simp only [br_iff, need_iff, andB_t, andB_f, orB_t, orB_f, notB_t, notB_f, leI_t, leI_f, ltI_t, ltI_f, eqI_t, eqI_f, leN_t, leN_f, eqN_t, eqN_f, eqS_t, eqS_f, eqB_t, eqB_f, catOk_t, leC_t] at q; simp [q])⟩
      have q : c = [102, 111, 99, 117, 115] := by simpa only [br_iff, need_iff, andB_t, andB_f, orB_t, orB_f, notB_t, notB_f, leI_t, leI_f, ltI_t, ltI_f, eqI_t, eqI_f, leN_t, leN_f, eqN_t, eqN_f, eqS_t, eqS_f, eqB_t, eqB_f, catOk_t, leC_t] using q
      rw [if_neg c1, if_neg c2, if_pos ⟨g, q⟩] at eF
      rw [nd hj, need_tt, kd hj, need_tt]
      refine ⟨x.id, by rw [pd gx]; rfl, ?_⟩
      exact fz eF rfl
    have v1 : ¬ (d = 2 ∧ c = [114, 97, 119, 111, 110]) → co_vcw_1 nx f0 l a nm b (j : Int) d s K := by
      intro c1
      unfold co_vcw_1
      rw [hc]
      rw [br_iff]; refine ⟨fun g => ?_, fun g => v2 c1 (by simp only [br_iff, need_iff, andB_t, andB_f, orB_t, orB_f, notB_t, notB_f, leI_t, leI_f, ltI_t, ltI_f, eqI_t, eqI_f, leN_t, leN_f, eqN_t, eqN_f, eqS_t, eqS_f, eqB_t, eqB_f, catOk_t, leC_t] at g; simp [g])⟩
      have g : d = 2 := by simpa only [br_iff, need_iff, andB_t, andB_f, orB_t, orB_f, notB_t, notB_f, leI_t, leI_f, ltI_t, ltI_f, eqI_t, eqI_f, leN_t, leN_f, eqN_t, eqN_f, eqS_t, eqS_f, eqB_t, eqB_f, catOk_t, leC_t] using g
      rw [br_iff]; refine ⟨fun q => ?_, fun q => v2 c1 (by simp only [br_iff, need_iff, andB_t, andB_f, orB_t, orB_f, notB_t, notB_f, leI_t, leI_f, ltI_t, ltI_f, eqI_t, eqI_f, leN_t, leN_f, eqN_t, eqN_f, eqS_t, eqS_f, eqB_t, eqB_f, catOk_t, leC_t] at q; simp [q])⟩
      have q : c = [114, 97, 119, 111, 102, 102] := by simpa only [br_iff, need_iff, andB_t, andB_f, orB_t, orB_f, notB_t, notB_f, leI_t, leI_f, ltI_t, ltI_f, eqI_t, eqI_f, leN_t, leN_f, eqN_t, eqN_f, eqS_t, eqS_f, eqB_t, eqB_f, catOk_t, leC_t] using q
      exact raw false (by rw [eF, if_neg c1, if_pos ⟨g, q⟩])
    rw [br_iff]; refine ⟨fun g => ?_, fun g => v1 (by simp only [br_iff, need_iff, andB_t, andB_f, orB_t, orB_f, notB_t, notB_f, leI_t, leI_f, ltI_t, ltI_f, eqI_t, eqI_f, leN_t, leN_f, eqN_t, eqN_f, eqS_t, eqS_f, eqB_t, eqB_f, catOk_t, leC_t] at g; simp [g])⟩
    have g : d = 2 := by simpa only [br_iff, need_iff, andB_t, andB_f, orB_t, orB_f, notB_t, notB_f, leI_t, leI_f, ltI_t, ltI_f, eqI_t, eqI_f, leN_t, leN_f, eqN_t, eqN_f, eqS_t, eqS_f, eqB_t, eqB_f, catOk_t, leC_t] using g
    rw [br_iff]; refine ⟨fun q => ?_, fun q => v1 (by simp only [br_iff, need_iff, andB_t, andB_f, orB_t, orB_f, notB_t, notB_f, leI_t, leI_f, ltI_t, ltI_f, eqI_t, eqI_f, leN_t, leN_f, eqN_t, eqN_f, eqS_t, eqS_f, eqB_t, eqB_f, catOk_t, leC_t] at q; simp [q])⟩
    have q : c = [114, 97, 119, 111, 110] := by simpa only [br_iff, need_iff, andB_t, andB_f, orB_t, orB_f, notB_t, notB_f, leI_t, leI_f, ltI_t, ltI_f, eqI_t, eqI_f, leN_t, leN_f, eqN_t, eqN_f, eqS_t, eqS_f, eqB_t, eqB_f, catOk_t, leC_t] using q
    exact raw true (by rw [eF, if_pos ⟨g, q⟩])
  · exact h.elim
end Go.Proofs.YtdbbpibfejchfaaGreatDoor
namespace Go.Proofs.YtdbbpibfejchfaaGreatDoor
open Go.RowKit
set_option maxRecDepth 100000
set_option linter.unusedVariables false
set_option linter.unusedSimpArgs false
theorem showF_v (x : Window) (s : List UInt8) : (showF x s).v = [.int .i64 x.id, .str x.label, .bool x.line.raw, .str x.line.text, .lst (strV x.line.ready), .str (showT x.text s), .int .i64 x.opens, .bool x.gone] := by
  unfold showF showT Window.v
  dsimp only
theorem wi_con {n : Nat} (hn : 6 ≤ n) : ConOk (evalF Tryz.prog cfgN n) 17 writeCon := by
  intro vs bs K h
  unfold writeCon at h
  split at h
  · rename_i nx f0 xs id s
    obtain ⟨l, rfl, hR, hid, hs, hK⟩ := h
    have hRb := hR
    have hR := (rightW_iff _).1 hR
    have hb := right_small hR
    have hlen := hb.1
    dsimp only at hlen
    refine run_of (lp := lpOf []) (by omega) (ct := ctOf [(32, wcloneCon), (33, findCon), (34, inlC Tryz.prog cfgN (ctOf []) 34), (41, refocusCon), (39, showCon), (42, controlCon)])
      (fun k hk => ctOf_ok (ctOf_cons (wcl_con (by omega)) (ctOf_cons (fnd_con (by omega)) (ctOf_cons (inl_ok (by omega) (fun _ _ => noCt_ok _)) (ctOf_cons (rf_con (by omega)) (ctOf_cons (shw_con (by omega)) (ctOf_cons (co_conw (by omega)) (ctOf_nil _)))))))) ?_
    rw [wi_vc]
    have f : ∀ {r}, writeW ⟨nx, f0, l⟩ id s = r → K (.tup [.agg [.int .i64 r.1.next, .int .i64 r.1.focus, .lst (windowV r.1.l)], .int .i64 r.2.1, .int .i64 r.2.2]) [] := fun h => by subst h; exact hK
    refine ⟨l, rfl, hlen, hid, fun p hp => ?_, fun hp => ⟨l, rfl, hb, ?_⟩⟩
    rotate_left
    · rw [wall]; exact f (r := (⟨nx, f0, l⟩, 0, 8)) (by unfold writeW; simp only [hp])
    have eF : writeW ⟨nx, f0, l⟩ id s = if 2147483648 ≤ p.mode then (⟨nx, f0, l⟩, 0, 10)
        else if p.id = 2 then refocusF ⟨nx, f0, l⟩ s
        else if (wAt l p.window).gone = true then (⟨nx, f0, l⟩, 0, 55)
        else if p.file = 1 then (setW ⟨nx, f0, l⟩ p.window (showF (wAt l p.window) s), (s.length : Int), 0)
        else if p.file = 3 then (if 64 < s.length then (⟨nx, f0, l⟩, 0, 4) else (setW ⟨nx, f0, l⟩ p.window { wAt l p.window with label := s }, (s.length : Int), 0))
        else if p.file = 4 then (⟨nx, f0, l⟩, 0, 11)
        else if (controlF ⟨nx, f0, l⟩ p.window p.file (cmdF s)).2 ≠ 0 then (⟨nx, f0, l⟩, 0, (controlF ⟨nx, f0, l⟩ p.window p.file (cmdF s)).2)
        else ((controlF ⟨nx, f0, l⟩ p.window p.file (cmdF s)).1, (s.length : Int), 0) := by
      unfold writeW; simp only [hp]
    rw [br_iff]; refine ⟨fun g => ⟨l, rfl, hb, ?_⟩, fun g1 => ?_⟩
    · rw [wall]; exact f (r := (⟨nx, f0, l⟩, 0, 10)) (by rw [eF, if_pos (by simpa only [br_iff, need_iff, andB_t, andB_f, orB_t, orB_f, notB_t, notB_f, leI_t, leI_f, ltI_t, ltI_f, eqI_t, eqI_f, leN_t, leN_f, eqN_t, eqN_f, eqS_t, eqS_f, eqB_t, eqB_f, catOk_t, leC_t] using g)])
    have g1 : p.mode < 2147483648 := by simpa only [br_iff, need_iff, andB_t, andB_f, orB_t, orB_f, notB_t, notB_f, leI_t, leI_f, ltI_t, ltI_f, eqI_t, eqI_f, leN_t, leN_f, eqN_t, eqN_f, eqS_t, eqS_f, eqB_t, eqB_f, catOk_t, leC_t] using g1
    rw [if_neg (by omega)] at eF
    rw [br_iff]; refine ⟨fun g => ⟨l, rfl, hb, by omega, ?_⟩, fun g2 => ?_⟩
    · exact f (by rw [eF, if_pos (by simpa only [br_iff, need_iff, andB_t, andB_f, orB_t, orB_f, notB_t, notB_f, leI_t, leI_f, ltI_t, ltI_f, eqI_t, eqI_f, leN_t, leN_f, eqN_t, eqN_f, eqS_t, eqS_f, eqB_t, eqB_f, catOk_t, leC_t] using g)])
    have g2 : ¬ p.id = 2 := by simpa only [br_iff, need_iff, andB_t, andB_f, orB_t, orB_f, notB_t, notB_f, leI_t, leI_f, ltI_t, ltI_f, eqI_t, eqI_f, leN_t, leN_f, eqN_t, eqN_f, eqS_t, eqS_f, eqB_t, eqB_f, catOk_t, leC_t] using g2
    rw [if_neg g2] at eF
    rcases place_at hp with ⟨h1, h2, h3, h4⟩ | ⟨i, x, e6, e2, e3, e5, _⟩
    · rcases h3 with h3 | h3
      · have := h4 h3; omega
      · exact absurd h3 g2
    have hx := hR.sound x (List.mem_of_getElem? e2)
    have hxs := (soundW_iff x).1 hx
    rw [e6, e5] at eF
    rw [e6, ndL e3, need_tt, kdL e3, need_tt]
    refine ⟨x.gone, by rw [windowV_row e2]; rfl, ?_⟩
    rw [br_iff]; refine ⟨fun g => ⟨l, rfl, hb, ?_⟩, fun g3 => ⟨l, rfl, hb, ?_⟩⟩
    · rw [wall]; exact f (r := (⟨nx, f0, l⟩, 0, 55)) (by rw [eF, if_pos g])
    rw [if_neg (by rw [g3]; simp)] at eF
    simp only [wall]
    rw [br_iff]; refine ⟨fun g => ?_, fun g4 => ?_⟩
    · rw [if_pos (by simpa only [br_iff, need_iff, andB_t, andB_f, orB_t, orB_f, notB_t, notB_f, leI_t, leI_f, ltI_t, ltI_f, eqI_t, eqI_f, leN_t, leN_f, eqN_t, eqN_f, eqS_t, eqS_f, eqB_t, eqB_f, catOk_t, leC_t] using g)] at eF
      rw [nd e3, need_tt, kd e3, need_tt]
      refine ⟨x.id, x.label, x.line.raw, x.line.text, strV x.line.ready, x.text, x.opens, x.gone, by rw [pd e2]; rfl, by omega, ?_⟩
      rw [need_iff]; refine ⟨rfl, ?_⟩
      rw [need_iff]; refine ⟨rfl, windowV (l.set i (showF x s)), ptd e2 (by rw [showF_v]; rfl), ?_⟩
      rw [wallS]
      exact f (r := (⟨nx, f0, l.set i (showF x s)⟩, (s.length : Int), 0)) (by rw [eF]; unfold setW; rw [Int.toNat_natCast])
    have g4 : ¬ p.file = 1 := by simpa only [br_iff, need_iff, andB_t, andB_f, orB_t, orB_f, notB_t, notB_f, leI_t, leI_f, ltI_t, ltI_f, eqI_t, eqI_f, leN_t, leN_f, eqN_t, eqN_f, eqS_t, eqS_f, eqB_t, eqB_f, catOk_t, leC_t] using g4
    rw [if_neg g4] at eF
    rw [br_iff]; refine ⟨fun g => ?_, fun g5 => ?_⟩
    · rw [if_pos (by simpa only [br_iff, need_iff, andB_t, andB_f, orB_t, orB_f, notB_t, notB_f, leI_t, leI_f, ltI_t, ltI_f, eqI_t, eqI_f, leN_t, leN_f, eqN_t, eqN_f, eqS_t, eqS_f, eqB_t, eqB_f, catOk_t, leC_t] using g)] at eF
      rw [br_iff]; refine ⟨fun q => f (r := (⟨nx, f0, l⟩, 0, 4)) (by rw [eF, if_pos (by simp only [br_iff, need_iff, andB_t, andB_f, orB_t, orB_f, notB_t, notB_f, leI_t, leI_f, ltI_t, ltI_f, eqI_t, eqI_f, leN_t, leN_f, eqN_t, eqN_f, eqS_t, eqS_f, eqB_t, eqB_f, catOk_t, leC_t, lenS] at q; omega)]), fun q => ?_⟩
      rw [if_neg (by simp only [br_iff, need_iff, andB_t, andB_f, orB_t, orB_f, notB_t, notB_f, leI_t, leI_f, ltI_t, ltI_f, eqI_t, eqI_f, leN_t, leN_f, eqN_t, eqN_f, eqS_t, eqS_f, eqB_t, eqB_f, catOk_t, leC_t, lenS] at q; omega)] at eF
      rw [nd e3, need_tt, kd e3, need_tt]
      refine ⟨windowV (l.set i { x with label := s }), ptd e2 rfl, ?_⟩
      rw [wallS]
      exact f (r := (⟨nx, f0, l.set i { x with label := s }⟩, (s.length : Int), 0)) (by rw [eF]; unfold setW; rw [Int.toNat_natCast])
    have g5 : ¬ p.file = 3 := by simpa only [br_iff, need_iff, andB_t, andB_f, orB_t, orB_f, notB_t, notB_f, leI_t, leI_f, ltI_t, ltI_f, eqI_t, eqI_f, leN_t, leN_f, eqN_t, eqN_f, eqS_t, eqS_f, eqB_t, eqB_f, catOk_t, leC_t] using g5
    rw [if_neg g5] at eF
    rw [br_iff]; refine ⟨fun g => f (r := (⟨nx, f0, l⟩, 0, 11)) (by rw [eF, if_pos (by simpa only [br_iff, need_iff, andB_t, andB_f, orB_t, orB_f, notB_t, notB_f, leI_t, leI_f, ltI_t, ltI_f, eqI_t, eqI_f, leN_t, leN_f, eqN_t, eqN_f, eqS_t, eqS_f, eqB_t, eqB_f, catOk_t, leC_t] using g)]), fun g6 => ?_⟩
    have g6 : ¬ p.file = 4 := by simpa only [br_iff, need_iff, andB_t, andB_f, orB_t, orB_f, notB_t, notB_f, leI_t, leI_f, ltI_t, ltI_f, eqI_t, eqI_f, leN_t, leN_f, eqN_t, eqN_f, eqS_t, eqS_f, eqB_t, eqB_f, catOk_t, leC_t] using g6
    rw [if_neg g6] at eF
    refine ⟨l, i, rfl, rfl, rfl, rfl, e3, hRb, by omega, fun m zs => ?_⟩
    generalize controlF ⟨nx, f0, l⟩ (i : Int) p.file (cmdF s) = r at eF ⊢
    rw [br_iff]; refine ⟨fun g => ⟨l, rfl, hb, ?_⟩, fun g => ?_⟩
    · exact f (r := (⟨nx, f0, l⟩, 0, r.2)) (by rw [eF, if_pos (by simpa only [br_iff, need_iff, andB_t, andB_f, orB_t, orB_f, notB_t, notB_f, leI_t, leI_f, ltI_t, ltI_f, eqI_t, eqI_f, leN_t, leN_f, eqN_t, eqN_f, eqS_t, eqS_f, eqB_t, eqB_f, catOk_t, leC_t] using g)])
    · have e : List.take r.1.l.length (List.drop 0 (windowV r.1.l ++ zs)) = windowV r.1.l := by
        rw [List.drop_zero]
        exact List.take_left' (windowV_len _)
      rw [e]
      exact f (r := (r.1, (s.length : Int), 0)) (by rw [eF, if_neg (by simp only [br_iff, need_iff, andB_t, andB_f, orB_t, orB_f, notB_t, notB_f, leI_t, leI_f, ltI_t, ltI_f, eqI_t, eqI_f, leN_t, leN_f, eqN_t, eqN_f, eqS_t, eqS_f, eqB_t, eqB_f, catOk_t, leC_t] at g; simpa using g)])
  · exact h.elim
theorem cs_con {n : Nat} (hn : 5 ≤ n) : ConOk (evalF Tryz.prog cfgN n) 19 closeCon := by
  intro vs bs K h
  unfold closeCon at h
  split at h
  · rename_i nx f0 xs id m
    obtain ⟨l, rfl, hR, hid, hK⟩ := h
    have hR := (rightW_iff _).1 hR
    have hb := right_small hR
    have hlen := hb.1
    dsimp only at hlen
    refine run_of (lp := lpOf []) (by omega) (ct := ctOf [(32, wcloneCon), (33, findCon), (35, inlC Tryz.prog cfgN (ctOf []) 35), (45, delCon)])
      (fun k hk => ctOf_ok (ctOf_cons (wcl_con (by omega)) (ctOf_cons (fnd_con (by omega)) (ctOf_cons (inl_ok (by omega) (fun _ _ => noCt_ok _)) (ctOf_cons (del_con (by omega)) (ctOf_nil _)))))) ?_
    rw [cs_vc]
    have f : ∀ {r : Windows}, closeW ⟨nx, f0, l⟩ id = r → K (.agg [.int .i64 r.next, .int .i64 r.focus, .lst (windowV r.l)]) [] := fun h => by subst h; exact hK
    simp only [wall]
    refine ⟨l, rfl, hb, l, rfl, hlen, hid, fun p hp => ?_, fun hp => ?_⟩
    rotate_left
    · exact f (r := ⟨nx, f0, l⟩) (by unfold closeW; simp only [hp])
    have eF : closeW ⟨nx, f0, l⟩ id = if p.window < 0 ∨ p.file = 0 then ⟨nx, f0, l⟩
        else if max ((wAt l p.window).opens - 1) 0 = 0 ∧ (wAt l p.window).gone = true then delW ⟨nx, f0, l⟩ p.window
        else setW ⟨nx, f0, l⟩ p.window { wAt l p.window with opens := max ((wAt l p.window).opens - 1) 0 } := by
      unfold closeW; simp only [hp]
    rw [br_iff]; refine ⟨fun gw => ?_, fun gw => f (r := ⟨nx, f0, l⟩) (by rw [eF, if_pos (.inl (by simpa only [br_iff, need_iff, andB_t, andB_f, orB_t, orB_f, notB_t, notB_f, leI_t, leI_f, ltI_t, ltI_f, eqI_t, eqI_f, leN_t, leN_f, eqN_t, eqN_f, eqS_t, eqS_f, eqB_t, eqB_f, catOk_t, leC_t] using gw))])⟩
    rw [br_iff]; refine ⟨fun gf => f (r := ⟨nx, f0, l⟩) (by rw [eF, if_pos (.inr (by simpa only [br_iff, need_iff, andB_t, andB_f, orB_t, orB_f, notB_t, notB_f, leI_t, leI_f, ltI_t, ltI_f, eqI_t, eqI_f, leN_t, leN_f, eqN_t, eqN_f, eqS_t, eqS_f, eqB_t, eqB_f, catOk_t, leC_t] using gf))]), fun gf => ?_⟩
    have gw : 0 ≤ p.window := by simpa only [br_iff, need_iff, andB_t, andB_f, orB_t, orB_f, notB_t, notB_f, leI_t, leI_f, ltI_t, ltI_f, eqI_t, eqI_f, leN_t, leN_f, eqN_t, eqN_f, eqS_t, eqS_f, eqB_t, eqB_f, catOk_t, leC_t] using gw
    have gf : ¬ p.file = 0 := by simpa only [br_iff, need_iff, andB_t, andB_f, orB_t, orB_f, notB_t, notB_f, leI_t, leI_f, ltI_t, ltI_f, eqI_t, eqI_f, leN_t, leN_f, eqN_t, eqN_f, eqS_t, eqS_f, eqB_t, eqB_f, catOk_t, leC_t] using gf
    rcases place_at hp with ⟨h1, _⟩ | ⟨i, x, e6, e2, e3, e5, _⟩
    · omega
    have hx := hR.sound x (List.mem_of_getElem? e2)
    obtain ⟨_, _, _, ho, ho2, _⟩ := (soundW_iff x).1 hx
    rw [if_neg (by omega), e6, e5] at eF
    rw [e6, nd e3, need_tt, kd e3, need_tt]
    have em : maxI (subI .i64 x.opens 1) 0 = max (x.opens - 1) 0 := by rw [subI_i64 (by omega) (by omega)]; rfl
    generalize max (x.opens - 1) 0 = o at eF em
    have gy : (l.set i { x with opens := o })[i]? = some { x with opens := o } := by simp [e3]
    have hL : (l.set i { x with opens := o }).length = l.length := List.length_set
    refine ⟨x.opens, by rw [pd e2]; rfl, windowV (l.set i { x with opens := o }), by rw [em]; exact ptd e2 rfl, o, by rw [pd gy]; rfl, ?_⟩
    rw [br_iff]; refine ⟨fun g => ⟨x.gone, by rw [pd gy]; rfl, ?_⟩, fun g => ?_⟩
    · have g : o = 0 := by simpa only [br_iff, need_iff, andB_t, andB_f, orB_t, orB_f, notB_t, notB_f, leI_t, leI_f, ltI_t, ltI_f, eqI_t, eqI_f, leN_t, leN_f, eqN_t, eqN_f, eqS_t, eqS_f, eqB_t, eqB_f, catOk_t, leC_t] using g
      rw [br_iff]; refine ⟨fun q => ?_, fun q => ?_⟩
      · rw [if_pos ⟨g, q⟩] at eF
        refine ⟨l.set i { x with opens := o }, i, rfl, by omega, by omega, rfl, by rw [addI_i64 (by omega) (by omega)]; rfl, by omega, by omega, fun zs => ?_⟩
        have e : List.take ((l.set i { x with opens := o }).length - 1) (List.drop 0 (windowV ((l.set i { x with opens := o }).eraseIdx i) ++ zs)) = windowV (l.eraseIdx i) := by
          rw [List.drop_zero, List.eraseIdx_set_eq]
          exact List.take_left' (by rw [windowV_len, List.length_eraseIdx_of_lt e3]; omega)
        rw [e]
        exact f (r := ⟨nx, f0, l.eraseIdx i⟩) (by rw [eF]; unfold delW; rw [Int.toNat_natCast])
      · rw [if_neg (by simp [q])] at eF
        rw [wallS]
        exact f (r := ⟨nx, f0, l.set i { x with opens := o }⟩) (by rw [eF]; unfold setW; rw [Int.toNat_natCast])
    · have g : ¬ o = 0 := by simpa only [br_iff, need_iff, andB_t, andB_f, orB_t, orB_f, notB_t, notB_f, leI_t, leI_f, ltI_t, ltI_f, eqI_t, eqI_f, leN_t, leN_f, eqN_t, eqN_f, eqS_t, eqS_f, eqB_t, eqB_f, catOk_t, leC_t] using g
      rw [if_neg (by simp [g])] at eF
      rw [wallS]
      exact f (r := ⟨nx, f0, l.set i { x with opens := o }⟩) (by rw [eF]; unfold setW; rw [Int.toNat_natCast])
  · exact h.elim
end Go.Proofs.YtdbbpibfejchfaaGreatDoor
