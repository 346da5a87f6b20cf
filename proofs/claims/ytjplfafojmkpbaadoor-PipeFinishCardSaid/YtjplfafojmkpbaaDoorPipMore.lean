/- Pipes: searches, copies, changes of one place. -/
import Derived.Test.YtjplfafojmkpbaaDoorPipAll
namespace Go.Proofs.YtjplfafojmkpbaaDoor
open Go.RowKit
set_option maxRecDepth 100000
set_option linter.unusedVariables false
set_option linter.unusedSimpArgs false
theorem idxN_ge {s : Int} : ∀ {l : List Pipe} {k : Nat}, (∀ a ∈ l, a.id ≠ s) → idxN s l k = none
  | [], k, _ => rfl
  | a :: l, k, h => by
    rw [idxN, if_neg (h a (List.mem_cons_self ..))]
    exact idxN_ge fun b hb => h b (List.mem_cons_of_mem _ hb)
theorem idxN_at {s : Int} : ∀ {l : List Pipe} {i k : Nat} {f : Pipe}, l[i]? = some f → f.id = s → (∀ (j : Nat) g, j < i → l[j]? = some g → g.id ≠ s) → idxN s l k = some (k + i)
  | a :: l, 0, k, f, h, hn, _ => by
    obtain rfl : a = f := by simpa using h
    rw [idxN, if_pos hn]; rfl
  | a :: l, i + 1, k, f, h, hn, hp => by
    rw [idxN, if_neg (hp 0 a (by omega) rfl), idxN_at (l := l) (i := i) (by simpa using h) hn fun j g hj hg => hp (j + 1) g (by omega) (by simpa using hg)]
    congr 1; omega
theorem idxN_some {s : Int} : ∀ {l : List Pipe} {k j : Nat}, idxN s l k = some j → ∃ i f, j = k + i ∧ l[i]? = some f ∧ f.id = s
  | [], k, j, h => by cases h
  | a :: l, k, j, h => by
    rw [idxN] at h
    split at h
    · cases h; exact ⟨0, a, rfl, rfl, ‹_›⟩
    · obtain ⟨i, f, h1, h2, h3⟩ := idxN_some h
      exact ⟨i + 1, f, by omega, by simpa using h2, h3⟩
theorem idxP_none {l : List Pipe} {s : Int} (h : ∀ a ∈ l, a.id ≠ s) : idxP l s = -1 := by unfold idxP; rw [idxN_ge h]
theorem idxP_at {l : List Pipe} {s : Int} {i : Nat} {f : Pipe} (h : l[i]? = some f) (hn : f.id = s) (hp : ∀ (j : Nat) g, j < i → l[j]? = some g → g.id ≠ s) : idxP l s = (i : Int) := by unfold idxP; rw [idxN_at h hn hp]; simp
theorem at_found {l : List Pipe} {id : Int} (h : 0 ≤ atF l id) : ∃ (i : Nat) (x : Pipe), atF l id = (i : Int) ∧ l[i]? = some x ∧ i < l.length ∧ 1 < id ∧ x.id = id / 2 := by
  unfold atF at h ⊢
  by_cases h1 : id ≤ 1
  · rw [if_pos h1] at h; omega
  · rw [if_neg h1] at h ⊢
    unfold idxP at h ⊢
    split at h
    · rename_i j hj
      obtain ⟨i, f, h2, h3, h4⟩ := idxN_some hj
      exact ⟨i, f, by omega, h3, (List.getElem?_eq_some_iff.1 h3).1, by omega, h4⟩
    · omega
theorem atF_ge (l : List Pipe) (id : Int) : -1 ≤ atF l id := by
  unfold atF idxP
  split
  · omega
  · split <;> omega
theorem atF_one (l : List Pipe) {id : Int} (h : id ≤ 1) : atF l id = -1 := by unfold atF; rw [if_pos h]
theorem mod2 {id : Int} : modI id 2 = 0 ∨ modI id 2 = 1 := by unfold modI; omega
theorem part_end {l : List Pipe} {i : Nat} {x : Pipe} (h : l[i]? = some x) {k : Int} (hk : k = 0 ∨ k = 1) : partAt (pipeV l) i (1 + k.toNat * 4) 4 = some (endOf x k).v := by
  rw [pipeV_part h]; rcases hk with rfl | rfl <;> rfl
theorem part_rd {l : List Pipe} {i : Nat} {x : Pipe} (h : l[i]? = some x) {k : Int} (hk : k = 0 ∨ k = 1) : partAt (pipeV l) i (1 + k.toNat * 4 + 1) 1 = some [.int .i64 (endOf x k).readers] := by
  rw [pipeV_part h]; rcases hk with rfl | rfl <;> rfl
theorem part_wr {l : List Pipe} {i : Nat} {x : Pipe} (h : l[i]? = some x) {k : Int} (hk : k = 0 ∨ k = 1) : partAt (pipeV l) i (1 + k.toNat * 4 + 2) 1 = some [.int .i64 (endOf x k).writers] := by
  rw [pipeV_part h]; rcases hk with rfl | rfl <;> rfl
theorem part_dt {l : List Pipe} {i : Nat} {x : Pipe} (h : l[i]? = some x) {k : Int} (hk : k = 0 ∨ k = 1) : partAt (pipeV l) i (1 + k.toNat * 4 + 0) 1 = some [.str (endOf x k).data] := by
  rw [pipeV_part h]; rcases hk with rfl | rfl <;> rfl
theorem sub_end {x : Pipe} {k : Int} (hk : k = 0 ∨ k = 1) : sub x.v (1 + k.toNat * 4) 4 = some (endOf x k).v := by rcases hk with rfl | rfl <;> rfl
theorem put_end {l : List Pipe} {i : Nat} {x : Pipe} (h : l[i]? = some x) {k : Int} (hk : k = 0 ∨ k = 1) (e : End) : putAt (pipeV l) i (1 + k.toNat * 4) e.v = some (pipeV (l.set i (withE x k e))) :=
  pipeV_put h (by rcases hk with rfl | rfl <;> rfl)
theorem put_dt {l : List Pipe} {i : Nat} {x : Pipe} (h : l[i]? = some x) {k : Int} (hk : k = 0 ∨ k = 1) (d : List UInt8) : putAt (pipeV l) i (1 + k.toNat * 4 + 0) [.str d] = some (pipeV (l.set i (withE x k { endOf x k with data := d }))) :=
  pipeV_put h (by rcases hk with rfl | rfl <;> rfl)
theorem put_rd {l : List Pipe} {i : Nat} {x : Pipe} (h : l[i]? = some x) {k : Int} (hk : k = 0 ∨ k = 1) (d : Int) : putAt (pipeV l) i (1 + k.toNat * 4 + 1) [.int .i64 d] = some (pipeV (l.set i (withE x k { endOf x k with readers := d }))) :=
  pipeV_put h (by rcases hk with rfl | rfl <;> rfl)
theorem put_wr {l : List Pipe} {i : Nat} {x : Pipe} (h : l[i]? = some x) {k : Int} (hk : k = 0 ∨ k = 1) (d : Int) : putAt (pipeV l) i (1 + k.toNat * 4 + 2) [.int .i64 d] = some (pipeV (l.set i (withE x k { endOf x k with writers := d }))) :=
  pipeV_put h (by rcases hk with rfl | rfl <;> rfl)
theorem cl_con {n : Nat} (hn : 1 ≤ n) : ConOk (evalF Tryd.prog cfgN n) 36 cloneCon := by
  intro vs bs K h
  unfold cloneCon at h
  split at h
  · obtain ⟨l, rfl, h1, hK⟩ := h
    refine run_of (lp := lpOf []) hn (fun k _ => noCt_ok _) ?_
    rw [cl_vc]
    rw [need_iff, need_iff, pipeV_len]
    exact ⟨pipeV_head _, by simp only [br_iff, need_iff, andB_t, andB_f, orB_t, orB_f, notB_t, notB_f, leI_t, leI_f, ltI_t, ltI_f, eqI_t, eqI_f, leN_t, leN_f, eqN_t, eqN_f, eqS_t, eqS_f, eqB_t, eqB_f, catOk_t, leC_t]; omega, hK⟩
  · exact h.elim
def atI (l : List Pipe) (s : Int) (i : Int) (m : Nat) : Prop := ∃ k : Nat, i = (k : Int) ∧ k + m = l.length ∧ ∀ (j : Nat) g, j < k → l[j]? = some g → g.id ≠ s
theorem at_next {l : List Pipe} {s : Int} {k : Nat} {f : Pipe} (hp : ∀ (j : Nat) g, j < k → l[j]? = some g → g.id ≠ s) (hf : l[k]? = some f) (h : f.id ≠ s) : ∀ (j : Nat) g, j < k + 1 → l[j]? = some g → g.id ≠ s := fun j g hj hg => by
  rcases Nat.lt_or_ge j k with h1 | h1
  · exact hp j g h1 hg
  · obtain rfl : j = k := by omega
    obtain rfl := Option.some.inj (hf.symm.trans hg)
    exact h
theorem at_end {l : List Pipe} {s : Int} (hp : ∀ (j : Nat) g, j < l.length → l[j]? = some g → g.id ≠ s) : idxP l s = -1 := idxP_none fun a ha => by
  obtain ⟨j, hj⟩ := List.mem_iff_getElem?.1 ha
  exact hp j a (List.getElem?_eq_some_iff.1 hj).1 hj
theorem ix_con {n : Nat} (hn : 2 ≤ n) : ConOk (evalF Tryd.prog cfgN n) 49 ixCon := by
  intro vs bs K h
  unfold ixCon at h
  split at h
  · rename_i xs s
    obtain ⟨l, rfl, hb, hs, hK⟩ := h
    refine run_of (lp := lpOf [(2, ifxL fun _ _ x m => atI l (divI s 2) x.i m)]) (by omega) (ct := ctOf [(50, inlC Tryd.prog cfgN (ctOf []) 50)]) (fun k hk => ctOf_ok (ctOf_cons (inl_ok (by omega) (fun _ _ => noCt_ok _)) (ctOf_nil _))) ?_
    rw [ifx_vc]
    rw [show quoI .i64 s 2 = divI s 2 from quoI_i64 hs.1 hs.2 (by omega)]
    simp only [pipeV_lenL]
    refine ⟨⟨l.length, by omega, 0, rfl, by omega, fun j g hj => by omega⟩, ?_⟩
    rintro ⟨i⟩ m ⟨k, rfl, hk, hp⟩
    dsimp only
    rw [br_iff]
    refine ⟨fun hlt => ?_, fun hge => ?_⟩
    · have hlt : k < l.length := by simp only [br_iff, need_iff, andB_t, andB_f, orB_t, orB_f, notB_t, notB_f, leI_t, leI_f, ltI_t, ltI_f, eqI_t, eqI_f, leN_t, leN_f, eqN_t, eqN_f, eqS_t, eqS_f, eqB_t, eqB_f, catOk_t, leC_t] at hlt; omega
      have gf : l[k]? = some l[k] := List.getElem?_eq_getElem hlt
      generalize l[k] = f at gf
      have rf := pipeV_row gf
      have kf : okRow (pipeV l) (Int.toNat (k : Int)) 9 = true := by simpa using pipeV_ok (l := l) (i := k) hlt
      have nf : andB (leI 0 (k : Int)) (ltI (k : Int) (l.length : Int)) = true := by simp only [br_iff, need_iff, andB_t, andB_f, orB_t, orB_f, notB_t, notB_f, leI_t, leI_f, ltI_t, ltI_f, eqI_t, eqI_f, leN_t, leN_f, eqN_t, eqN_f, eqS_t, eqS_f, eqB_t, eqB_f, catOk_t, leC_t]; omega
      rw [need_iff, need_iff]
      refine ⟨nf, kf, ?_⟩
      try rw [rf]
      repeat apply Exists.intro
      refine ⟨rfl, ?_⟩
      rw [br_iff]
      refine ⟨fun g => ?_, fun g => ⟨by trivial, m - 1, by omega, k + 1, by rw [addI_i64 (by omega) (by omega)]; omega, by omega, at_next hp gf (by simp only [br_iff, need_iff, andB_t, andB_f, orB_t, orB_f, notB_t, notB_f, leI_t, leI_f, ltI_t, ltI_f, eqI_t, eqI_f, leN_t, leN_f, eqN_t, eqN_f, eqS_t, eqS_f, eqB_t, eqB_f, catOk_t, leC_t] at g; exact g)⟩⟩
      simp only [br_iff, need_iff, andB_t, andB_f, orB_t, orB_f, notB_t, notB_f, leI_t, leI_f, ltI_t, ltI_f, eqI_t, eqI_f, leN_t, leN_f, eqN_t, eqN_f, eqS_t, eqS_f, eqB_t, eqB_f, catOk_t, leC_t] at g
      rw [idxP_at gf g hp] at hK; exact hK
    · have : k = l.length := by simp only [br_iff, need_iff, andB_t, andB_f, orB_t, orB_f, notB_t, notB_f, leI_t, leI_f, ltI_t, ltI_f, eqI_t, eqI_f, leN_t, leN_f, eqN_t, eqN_f, eqS_t, eqS_f, eqB_t, eqB_f, catOk_t, leC_t] at hge; omega
      subst this
      rw [at_end hp] at hK; exact hK
  · exact h.elim
theorem find_con {n : Nat} (hn : 3 ≤ n) : ConOk (evalF Tryd.prog cfgN n) 37 findCon := by
  intro vs bs K h
  unfold findCon at h
  split at h
  · rename_i nx xs id
    obtain ⟨l, rfl, hb, hi, hK⟩ := h
    refine run_of (lp := lpOf []) (by omega) (ct := ctOf [(49, ixCon)]) (fun k hk => ctOf_ok (ctOf_cons (ix_con (by omega)) (ctOf_nil _))) ?_
    rw [fnd_vc]
    rw [br_iff] at hK ⊢
    obtain ⟨k1, k2⟩ := hK
    refine ⟨fun g => k1 ?_ _ _, fun g => ⟨l, rfl, hb, ⟨?_, hi⟩, ?_⟩⟩
    · simp only [br_iff, need_iff, andB_t, andB_f, orB_t, orB_f, notB_t, notB_f, leI_t, leI_f, ltI_t, ltI_f, eqI_t, eqI_f, leN_t, leN_f, eqN_t, eqN_f, eqS_t, eqS_f, eqB_t, eqB_f, catOk_t, leC_t] at g ⊢; rw [atF_one l g]; omega
    · simp only [br_iff, need_iff, andB_t, andB_f, orB_t, orB_f, notB_t, notB_f, leI_t, leI_f, ltI_t, ltI_f, eqI_t, eqI_f, leN_t, leN_f, eqN_t, eqN_f, eqS_t, eqS_f, eqB_t, eqB_f, catOk_t, leC_t] at g; omega
    · simp only [br_iff, need_iff, andB_t, andB_f, orB_t, orB_f, notB_t, notB_f, leI_t, leI_f, ltI_t, ltI_f, eqI_t, eqI_f, leN_t, leN_f, eqN_t, eqN_f, eqS_t, eqS_f, eqB_t, eqB_f, catOk_t, leC_t] at g
      have e : atF l id = idxP l (divI id 2) := by unfold atF; rw [if_neg (by omega)]
      rw [e] at k1 k2
      rw [show id.tmod 2 = modI id 2 from tmod_pos (by omega)]
      cases q : leI 0 (idxP l (divI id 2)) with
      | true => exact k2 (by simp only [br_iff, need_iff, andB_t, andB_f, orB_t, orB_f, notB_t, notB_f, leI_t, leI_f, ltI_t, ltI_f, eqI_t, eqI_f, leN_t, leN_f, eqN_t, eqN_f, eqS_t, eqS_f, eqB_t, eqB_f, catOk_t, leC_t] at q ⊢; omega)
      | false => exact k1 (by simp only [br_iff, need_iff, andB_t, andB_f, orB_t, orB_f, notB_t, notB_f, leI_t, leI_f, ltI_t, ltI_f, eqI_t, eqI_f, leN_t, leN_f, eqN_t, eqN_f, eqS_t, eqS_f, eqB_t, eqB_f, catOk_t, leC_t] at q ⊢; omega) _ _
  · exact h.elim
theorem at_con {n : Nat} (hn : 1 ≤ n) : ConOk (evalF Tryd.prog cfgN n) 43 atCon := by
  intro vs bs K h
  unfold atCon at h
  split at h
  · rename_i nx xs id
    obtain ⟨l, rfl, hb, hi, hK⟩ := h
    by_cases h1 : id ≤ 1
    · rw [atF_one l h1] at hK
      refine run_of (lp := lpOf [(2, atxL fun _ _ x m => ∃ k : Nat, x.i = (k : Int) ∧ k + m = l.length)]) hn (fun k _ => noCt_ok _) ?_
      rw [at_vc]
      simp only [pipeV_lenL]
      refine ⟨⟨l.length, by omega, 0, rfl, by omega⟩, ?_⟩
      rintro ⟨i⟩ m ⟨k, hx, hk⟩
      dsimp only at hx ⊢
      subst hx
      rw [br_iff]
      refine ⟨fun hlt => ?_, fun hge => hK⟩
      have hlt : k < l.length := by simp only [br_iff, need_iff, andB_t, andB_f, orB_t, orB_f, notB_t, notB_f, leI_t, leI_f, ltI_t, ltI_f, eqI_t, eqI_f, leN_t, leN_f, eqN_t, eqN_f, eqS_t, eqS_f, eqB_t, eqB_f, catOk_t, leC_t] at hlt; omega
      rw [br_iff]
      exact ⟨fun g => by simp only [br_iff, need_iff, andB_t, andB_f, orB_t, orB_f, notB_t, notB_f, leI_t, leI_f, ltI_t, ltI_f, eqI_t, eqI_f, leN_t, leN_f, eqN_t, eqN_f, eqS_t, eqS_f, eqB_t, eqB_f, catOk_t, leC_t] at g; omega, fun _ => ⟨by trivial, m - 1, by omega, k + 1, by rw [addI_i64 (by omega) (by omega)]; omega, by omega⟩⟩
    · have e : atF l id = idxP l (divI id 2) := by unfold atF; rw [if_neg h1]
      rw [e] at hK
      refine run_of (lp := lpOf [(2, atxL fun _ _ x m => atI l (divI id 2) x.i m)]) hn (fun k _ => noCt_ok _) ?_
      rw [at_vc]
      rw [show quoI .i64 id 2 = divI id 2 from quoI_i64 (by omega) hi (by omega)]
      simp only [pipeV_lenL]
      refine ⟨⟨l.length, by omega, 0, rfl, by omega, fun j g hj => by omega⟩, ?_⟩
      rintro ⟨i⟩ m ⟨k, rfl, hk, hp⟩
      dsimp only
      rw [br_iff]
      refine ⟨fun hlt => ?_, fun hge => ?_⟩
      · have hlt : k < l.length := by simp only [br_iff, need_iff, andB_t, andB_f, orB_t, orB_f, notB_t, notB_f, leI_t, leI_f, ltI_t, ltI_f, eqI_t, eqI_f, leN_t, leN_f, eqN_t, eqN_f, eqS_t, eqS_f, eqB_t, eqB_f, catOk_t, leC_t] at hlt; omega
        rw [br_iff]
        refine ⟨fun _ => ?_, fun g => by simp only [br_iff, need_iff, andB_t, andB_f, orB_t, orB_f, notB_t, notB_f, leI_t, leI_f, ltI_t, ltI_f, eqI_t, eqI_f, leN_t, leN_f, eqN_t, eqN_f, eqS_t, eqS_f, eqB_t, eqB_f, catOk_t, leC_t] at g; omega⟩
        have gf : l[k]? = some l[k] := List.getElem?_eq_getElem hlt
        generalize l[k] = f at gf
        have rf := pipeV_row gf
        have kf : okRow (pipeV l) (Int.toNat (k : Int)) 9 = true := by simpa using pipeV_ok (l := l) (i := k) hlt
        have nf : andB (leI 0 (k : Int)) (ltI (k : Int) (l.length : Int)) = true := by simp only [br_iff, need_iff, andB_t, andB_f, orB_t, orB_f, notB_t, notB_f, leI_t, leI_f, ltI_t, ltI_f, eqI_t, eqI_f, leN_t, leN_f, eqN_t, eqN_f, eqS_t, eqS_f, eqB_t, eqB_f, catOk_t, leC_t]; omega
        rw [need_iff, need_iff]
        refine ⟨nf, kf, ?_⟩
        try rw [rf]
        repeat apply Exists.intro
        refine ⟨rfl, ?_⟩
        rw [br_iff]
        refine ⟨fun g => ?_, fun g => ⟨by trivial, m - 1, by omega, k + 1, by rw [addI_i64 (by omega) (by omega)]; omega, by omega, at_next hp gf (by simp only [br_iff, need_iff, andB_t, andB_f, orB_t, orB_f, notB_t, notB_f, leI_t, leI_f, ltI_t, ltI_f, eqI_t, eqI_f, leN_t, leN_f, eqN_t, eqN_f, eqS_t, eqS_f, eqB_t, eqB_f, catOk_t, leC_t] at g; exact g)⟩⟩
        simp only [br_iff, need_iff, andB_t, andB_f, orB_t, orB_f, notB_t, notB_f, leI_t, leI_f, ltI_t, ltI_f, eqI_t, eqI_f, leN_t, leN_f, eqN_t, eqN_f, eqS_t, eqS_f, eqB_t, eqB_f, catOk_t, leC_t] at g
        rw [idxP_at gf g hp] at hK; exact hK
      · have : k = l.length := by simp only [br_iff, need_iff, andB_t, andB_f, orB_t, orB_f, notB_t, notB_f, leI_t, leI_f, ltI_t, ltI_f, eqI_t, eqI_f, leN_t, leN_f, eqN_t, eqN_f, eqS_t, eqS_f, eqB_t, eqB_f, catOk_t, leC_t] at hge; omega
        subst this
        rw [at_end hp] at hK; exact hK
  · exact h.elim
theorem end2_con {n : Nat} (hn : 4 ≤ n) : ConOk (evalF Tryd.prog cfgN n) 40 endCon := by
  intro vs bs K h
  unfold endCon at h
  split at h
  · rename_i nx xs id
    obtain ⟨l, rfl, hb, hi, hK⟩ := h
    refine run_of (lp := lpOf []) (by omega) (ct := ctOf [(37, findCon)]) (fun k hk => ctOf_ok (ctOf_cons (find_con (by omega)) (ctOf_nil _))) ?_
    rw [end2_vc]
    rw [br_iff] at hK ⊢
    refine ⟨hK.1, fun g => ⟨l, rfl, hb, hi, ?_⟩⟩
    have := hK.2 g
    rw [br_iff] at this ⊢
    exact ⟨fun q _ _ => this.1 q, this.2⟩
  · exact h.elim
theorem del_vc (xs : List (List V)) (n m : Nat) (i j : Int) (K : V → List Bk → Prop) : vcF Tryd.prog cfgN (ctOf []) (lpOf []) 41 [.ref 0 0 n m, .int .i64 i, .int .i64 j] [⟨true, false, true, xs⟩] K = delP 9 88 [.int .i64 0, .str [], .int .i64 0, .int .i64 0, .bool false, .str [], .int .i64 0, .int .i64 0, .bool false] xs n m i j K := by kernel_rfl
theorem del_con {n : Nat} (hn : 1 ≤ n) : ConOk (evalF Tryd.prog cfgN n) 41 delCon := by
  intro vs bs K h
  unfold delCon at h
  split at h
  · obtain ⟨l, k, rfl, rfl, rfl, rfl, rfl, hk, hb, hK⟩ := h
    refine run_of (lp := lpOf []) hn (fun k _ => noCt_ok _) ?_
    rw [del_vc]
    have hl := pipeV_len l
    have := delP_of (z := 9) (b := 88) (Z := [.int .i64 0, .str [], .int .i64 0, .int .i64 0, .bool false, .str [], .int .i64 0, .int .i64 0, .bool false]) (xs := pipeV l) (k := k) (K := K) (fun r hr => by
      obtain ⟨s, _, rfl⟩ := List.mem_map.1 hr
      rfl) (by omega) (by omega) (fun ys => by
        rw [hl, show (pipeV l).eraseIdx k = pipeV (l.eraseIdx k) from by simp [pipeV, List.eraseIdx_eq_take_drop_succ, List.map_take, List.map_drop]]
        exact hK ys)
    rw [hl] at this
    exact this
  · exact h.elim
theorem put_con {n : Nat} (hn : 1 ≤ n) : ConOk (evalF Tryd.prog cfgN n) 47 putCon := by
  intro vs bs K h
  unfold putCon at h
  split at h
  · rename_i nx xs i k cs
    obtain ⟨l, e, j, x, rfl, rfl, hb, rfl, gx, hK⟩ := h
    refine run_of (lp := lpOf []) hn (fun k _ => noCt_ok _) ?_
    rw [put_vc]
    have hlt := (List.getElem?_eq_some_iff.1 gx).1
    simp only [leN_succ, eqN_self, leI_self, br_ff, br_tt, need_tt, andB_tt, List.drop_zero, List.nil_append, List.append_nil, Nat.zero_add, Nat.add_zero, Nat.sub_zero, List.take_length, Int.ofNat_eq_natCast, Int.toNat_natCast, Int.toNat_zero, pipeV_len, pipeV_lenL, pipeV_head, pipeV_all, pipeV_all1]
    have hin : andB (leI 0 (j : Int)) (ltI (j : Int) (l.length : Int)) = true := by simp only [br_iff, need_iff, andB_t, andB_f, orB_t, orB_f, notB_t, notB_f, leI_t, leI_f, ltI_t, ltI_f, eqI_t, eqI_f, leN_t, leN_f, eqN_t, eqN_f, eqS_t, eqS_f, eqB_t, eqB_f, catOk_t, leC_t]; omega
    have hok : okRow (pipeV l) j 9 = true := pipeV_ok hlt
    rw [need_iff, need_iff, need_iff]
    refine ⟨by simp only [br_iff, need_iff, andB_t, andB_f, orB_t, orB_f, notB_t, notB_f, leI_t, leI_f, ltI_t, ltI_f, eqI_t, eqI_f, leN_t, leN_f, eqN_t, eqN_f, eqS_t, eqS_f, eqB_t, eqB_f, catOk_t, leC_t]; omega, hin, hok, ?_⟩
    rw [pipeV_part gx]
    repeat apply Exists.intro
    refine ⟨rfl, ?_⟩
    have hset : ∀ y : Pipe, List.take l.length (pipeV (l.set j y)) = pipeV (l.set j y) := fun y => List.take_of_length_le (by simp [pipeV])
    rw [br_iff]
    refine ⟨fun g => ?_, fun g => ?_⟩
    · rw [need_iff, need_iff]
      refine ⟨hin, hok, _, pipeV_put (g := { x with ends0 := e }) gx rfl, ?_⟩
      rw [hset]
      unfold withE at hK; rw [if_pos (by simp only [br_iff, need_iff, andB_t, andB_f, orB_t, orB_f, notB_t, notB_f, leI_t, leI_f, ltI_t, ltI_f, eqI_t, eqI_f, leN_t, leN_f, eqN_t, eqN_f, eqS_t, eqS_f, eqB_t, eqB_f, catOk_t, leC_t] at g; exact g)] at hK
      exact hK
    · rw [need_iff, need_iff]
      refine ⟨hin, hok, _, pipeV_put (g := { x with ends1 := e }) gx rfl, ?_⟩
      rw [hset]
      unfold withE at hK; rw [if_neg (by simp only [br_iff, need_iff, andB_t, andB_f, orB_t, orB_f, notB_t, notB_f, leI_t, leI_f, ltI_t, ltI_f, eqI_t, eqI_f, leN_t, leN_f, eqN_t, eqN_f, eqS_t, eqS_f, eqB_t, eqB_f, catOk_t, leC_t] at g; exact g)] at hK
      exact hK
  · exact h.elim
end Go.Proofs.YtjplfafojmkpbaaDoor
namespace Go.Proofs.YtjplfafojmkpbaaDoor
open Go.RowKit
set_option maxRecDepth 100000
set_option linter.unusedVariables false
set_option linter.unusedSimpArgs false
def zE : End := ⟨[], 0, 0, false⟩
def makeF (n : Int) (l : List Pipe) : (Int × List Pipe) × Int × Int :=
  if 64 ≤ l.length ∨ 549755813888 ≤ nextF n l then ((n, l), 0, 22) else ((nextF n l + 1, l ++ [⟨nextF n l, zE, zE⟩]), nextF n l, 0)
def makeCon : Con := fun vs bs K => match vs, bs with
  | [.agg [.int .i64 n, .lst xs]], [] => ∃ l, xs = pipeV l ∧ l.length ≤ 1000 ∧ 0 ≤ n ∧ (n = 0 → l = []) ∧ K (.tup [.agg [.int .i64 (makeF n l).1.1, .lst (pipeV (makeF n l).1.2)], .int .i64 (makeF n l).2.1, .int .i64 (makeF n l).2.2]) []
  | _, _ => False
theorem mk_con {n : Nat} (hn : 3 ≤ n) : ConOk (evalF Tryd.prog cfgN n) 13 makeCon := by
  intro vs bs K h
  unfold makeCon at h
  split at h
  · rename_i nx xs
    obtain ⟨l, rfl, hsz, h0, hz, hK⟩ := h
    refine run_of (lp := lpOf []) (by omega) (ct := ctOf [(36, cloneCon)]) (fun k hk => ctOf_ok (ctOf_cons (cl_con (by omega)) (ctOf_nil _))) ?_
    rw [mk_vc]
    have e : ∀ {r}, makeF nx l = r → K (.tup [.agg [.int .i64 r.1.1, .lst (pipeV r.1.2)], .int .i64 r.2.1, .int .i64 r.2.2]) [] := fun h => by subst h; exact hK
    refine ⟨l, rfl, by omega, ?_⟩
    simp only [leN_succ, eqN_self, leI_self, br_ff, br_tt, need_tt, andB_tt, List.drop_zero, List.nil_append, List.append_nil, Nat.zero_add, Nat.add_zero, Nat.sub_zero, List.take_length, Int.ofNat_eq_natCast, Int.toNat_natCast, Int.toNat_zero, pipeV_len, pipeV_lenL, pipeV_head, pipeV_all, pipeV_all1]
    rw [br_iff]
    refine ⟨fun g => ?_, fun g => ?_⟩
    · simp only [br_iff, need_iff, andB_t, andB_f, orB_t, orB_f, notB_t, notB_f, leI_t, leI_f, ltI_t, ltI_f, eqI_t, eqI_f, leN_t, leN_f, eqN_t, eqN_f, eqS_t, eqS_f, eqB_t, eqB_f, catOk_t, leC_t] at g
      have hl := hz g
      subst hl
      have hx : nextF nx [] = 1 := by unfold nextF; rw [if_pos ⟨g, rfl⟩]
      rw [br_iff]
      refine ⟨fun g => by simp [leI] at g, fun _ => ?_⟩
      rw [need_iff]; refine ⟨rfl, ?_⟩
      exact e (r := ((2, [⟨1, zE, zE⟩]), 1, 0)) (by simp [makeF, hx])
    · simp only [br_iff, need_iff, andB_t, andB_f, orB_t, orB_f, notB_t, notB_f, leI_t, leI_f, ltI_t, ltI_f, eqI_t, eqI_f, leN_t, leN_f, eqN_t, eqN_f, eqS_t, eqS_f, eqB_t, eqB_f, catOk_t, leC_t] at g
      have hx : nextF nx l = nx := by unfold nextF; rw [if_neg (fun h => g h.1)]
      rw [br_iff]
      refine ⟨fun g1 => ⟨l, rfl, by omega, ?_⟩, fun g1 => ?_⟩
      · exact e (r := ((nx, l), 0, 22)) (by simp only [br_iff, need_iff, andB_t, andB_f, orB_t, orB_f, notB_t, notB_f, leI_t, leI_f, ltI_t, ltI_f, eqI_t, eqI_f, leN_t, leN_f, eqN_t, eqN_f, eqS_t, eqS_f, eqB_t, eqB_f, catOk_t, leC_t] at g1; unfold makeF; rw [if_pos]; left; omega)
      rw [br_iff]
      refine ⟨fun g2 => ⟨l, rfl, by omega, ?_⟩, fun g2 => ?_⟩
      · exact e (r := ((nx, l), 0, 22)) (by simp only [br_iff, need_iff, andB_t, andB_f, orB_t, orB_f, notB_t, notB_f, leI_t, leI_f, ltI_t, ltI_f, eqI_t, eqI_f, leN_t, leN_f, eqN_t, eqN_f, eqS_t, eqS_f, eqB_t, eqB_f, catOk_t, leC_t] at g2; unfold makeF; rw [if_pos]; right; omega)
      simp only [br_iff, need_iff, andB_t, andB_f, orB_t, orB_f, notB_t, notB_f, leI_t, leI_f, ltI_t, ltI_f, eqI_t, eqI_f, leN_t, leN_f, eqN_t, eqN_f, eqS_t, eqS_f, eqB_t, eqB_f, catOk_t, leC_t] at g1 g2
      rw [need_iff]; refine ⟨by simp only [br_iff, need_iff, andB_t, andB_f, orB_t, orB_f, notB_t, notB_f, leI_t, leI_f, ltI_t, ltI_f, eqI_t, eqI_f, leN_t, leN_f, eqN_t, eqN_f, eqS_t, eqS_f, eqB_t, eqB_f, catOk_t, leC_t]; omega, ?_⟩
      have := e (r := ((nx + 1, l ++ [⟨nx, zE, zE⟩]), nx, 0)) (by unfold makeF; rw [if_neg (by omega), hx])
      rw [← pipeV_add] at this
      rw [addI_i64 (by omega) (by omega)]
      exact this
  · exact h.elim
theorem rmk_con {n : Nat} (hn : 3 ≤ n) : ConOk (evalF Tryd.prog cfgN n) 31 makeCon := by
  intro vs bs K h
  unfold makeCon at h
  split at h
  · rename_i nx xs
    obtain ⟨l, rfl, hsz, h0, hz, hK⟩ := h
    refine run_of (lp := lpOf []) (by omega) (ct := ctOf [(26, nextCon)]) (fun k hk => ctOf_ok (ctOf_cons (next_con (by omega)) (ctOf_nil _))) ?_
    rw [rmk_vc]
    have e : ∀ {r}, makeF nx l = r → K (.tup [.agg [.int .i64 r.1.1, .lst (pipeV r.1.2)], .int .i64 r.2.1, .int .i64 r.2.2]) [] := fun h => by subst h; exact hK
    have hx0 : 0 ≤ nextF nx l := by unfold nextF; split <;> omega
    refine ⟨l, rfl, ?_⟩
    simp only [leN_succ, eqN_self, leI_self, br_ff, br_tt, need_tt, andB_tt, List.drop_zero, List.nil_append, List.append_nil, Nat.zero_add, Nat.add_zero, Nat.sub_zero, List.take_length, Int.ofNat_eq_natCast, Int.toNat_natCast, Int.toNat_zero, pipeV_len, pipeV_lenL, pipeV_head, pipeV_all, pipeV_all1]
    rw [br_iff]
    refine ⟨fun g1 => e (r := ((nx, l), 0, 22)) (by simp only [br_iff, need_iff, andB_t, andB_f, orB_t, orB_f, notB_t, notB_f, leI_t, leI_f, ltI_t, ltI_f, eqI_t, eqI_f, leN_t, leN_f, eqN_t, eqN_f, eqS_t, eqS_f, eqB_t, eqB_f, catOk_t, leC_t] at g1; unfold makeF; rw [if_pos]; left; omega), fun g1 => ?_⟩
    rw [br_iff]
    refine ⟨fun g2 => e (r := ((nx, l), 0, 22)) (by simp only [br_iff, need_iff, andB_t, andB_f, orB_t, orB_f, notB_t, notB_f, leI_t, leI_f, ltI_t, ltI_f, eqI_t, eqI_f, leN_t, leN_f, eqN_t, eqN_f, eqS_t, eqS_f, eqB_t, eqB_f, catOk_t, leC_t] at g2; unfold makeF; rw [if_pos]; right; omega), fun g2 => ?_⟩
    simp only [br_iff, need_iff, andB_t, andB_f, orB_t, orB_f, notB_t, notB_f, leI_t, leI_f, ltI_t, ltI_f, eqI_t, eqI_f, leN_t, leN_f, eqN_t, eqN_f, eqS_t, eqS_f, eqB_t, eqB_f, catOk_t, leC_t] at g1 g2
    rw [need_iff]; refine ⟨by simp only [br_iff, need_iff, andB_t, andB_f, orB_t, orB_f, notB_t, notB_f, leI_t, leI_f, ltI_t, ltI_f, eqI_t, eqI_f, leN_t, leN_f, eqN_t, eqN_f, eqS_t, eqS_f, eqB_t, eqB_f, catOk_t, leC_t]; omega, ?_⟩
    rw [need_iff]; refine ⟨by simp only [br_iff, need_iff, andB_t, andB_f, orB_t, orB_f, notB_t, notB_f, leI_t, leI_f, ltI_t, ltI_f, eqI_t, eqI_f, leN_t, leN_f, eqN_t, eqN_f, eqS_t, eqS_f, eqB_t, eqB_f, catOk_t, leC_t]; omega, ?_⟩
    have := e (r := ((nextF nx l + 1, l ++ [⟨nextF nx l, zE, zE⟩]), nextF nx l, 0)) (by unfold makeF; rw [if_neg (by omega)])
    rw [← pipeV_add] at this
    rw [addI_i64 (by omega) (by omega)]
    exact this
  · exact h.elim
def openE (x : Pipe) (id m : Int) : Option Pipe :=
  if 9007199254740991 < (endOf x (modI id 2)).readers + rdF (modI m 16) ∨ 9007199254740991 < (endOf x (modI id 2)).writers + wrF (modI m 16) then none
  else some (withE x (modI id 2) { endOf x (modI id 2) with readers := (endOf x (modI id 2)).readers + rdF (modI m 16), writers := (endOf x (modI id 2)).writers + wrF (modI m 16), ever := true })
def openF (l : List Pipe) (id m : Int) : List Pipe × Int :=
  if atF l id < 0 ∧ id ≠ 1 then (l, 8) else if modeOk m = false then (l, 12) else if id = 1 then (if m = 0 then (l, 0) else (l, 10)) else if modI m 16 = 3 then (l, 11) else
  match (l[(atF l id).toNat]?).bind fun x => openE x id m with
  | none => (l, 22)
  | some y => (l.set (atF l id).toNat y, 0)
def openCon : Con := fun vs bs K => match vs, bs with
  | [.agg [.int .i64 n, .lst xs], .int .i64 id, .int .i64 m], [] => ∃ l, xs = pipeV l ∧ okL l ∧ id ≤ 9223372036854775807 ∧ m ≤ 9223372036854775807 ∧ K (.tup [.agg [.int .i64 n, .lst (pipeV (openF l id m).1)], .int .i64 (openF l id m).2]) []
  | _, _ => False
theorem end_ok {l : List Pipe} (h : okL l) {i : Nat} {x : Pipe} (gx : l[i]? = some x) (k : Int) : (endOf x k).data.length ≤ 8192 ∧ (0 ≤ (endOf x k).readers ∧ (endOf x k).readers ≤ 9007199254740991) ∧ (0 ≤ (endOf x k).writers ∧ (endOf x k).writers ≤ 9007199254740991) := by
  obtain ⟨h1, h2⟩ := h.2 x (List.mem_of_getElem? gx)
  simp only [soundB, decide_eq_true_eq] at h1 h2
  unfold endOf
  split
  · exact ⟨h1.1, h1.2.1, h1.2.2.1⟩
  · exact ⟨h2.1, h2.2.1, h2.2.2.1⟩
theorem rdF_r (m : Int) : 0 ≤ rdF m ∧ rdF m ≤ 1 := by unfold rdF; split <;> omega
theorem wrF_r (m : Int) : 0 ≤ wrF m ∧ wrF m ≤ 1 := by unfold wrF; split <;> omega
theorem pset_all (l : List Pipe) (i : Nat) (y : Pipe) : List.take l.length (pipeV (l.set i y)) = pipeV (l.set i y) := List.take_of_length_le (by simp [pipeV])
theorem openF_at {l : List Pipe} {id m : Int} {i : Nat} {x : Pipe} (hi : atF l id = (i : Int)) (gx : l[i]? = some x) (h1 : 1 < id) (hm : modeOk m = true) (h3 : modI m 16 ≠ 3) :
    openF l id m = match openE x id m with
      | none => (l, 22)
      | some y => (l.set i y, 0) := by
  unfold openF
  rw [if_neg (by rw [hi]; omega), if_neg (by simp [hm]), if_neg (by omega), if_neg h3, hi]
  simp [gx]
theorem op_con {n : Nat} (hn : 5 ≤ n) : ConOk (evalF Tryd.prog cfgN n) 14 openCon := by
  intro vs bs K h
  unfold openCon at h
  split at h
  · rename_i nx xs id m
    obtain ⟨l, rfl, ho, hid, hm, hK⟩ := h
    refine run_of (lp := lpOf []) (by omega) (ct := ctOf [(36, cloneCon), (37, findCon), (38, baseCon), (39, usesCon)])
      (fun k hk => ctOf_ok (ctOf_cons (cl_con (by omega)) (ctOf_cons (find_con (by omega)) (ctOf_cons (base_con (by omega)) (ctOf_cons (uses_con (by omega)) (ctOf_nil _)))))) ?_
    rw [op_vc]
    have hsz := ho.1
    have e : ∀ {r}, openF l id m = r → K (.tup [.agg [.int .i64 nx, .lst (pipeV r.1)], .int .i64 r.2]) [] := fun h => by subst h; exact hK
    refine ⟨l, rfl, by omega, l, rfl, by omega, hid, ?_⟩
    have bad : modeOk m = false → ¬ (atF l id < 0 ∧ id ≠ 1) → openF l id m = (l, 12) := fun h1 h2 => by unfold openF; rw [if_neg h2, if_pos h1]
    have o1 : atF l id < 0 → id ≠ 1 → openF l id m = (l, 8) := fun h1 h2 => by unfold openF; rw [if_pos ⟨h1, h2⟩]
    have r1 : modeOk m = true → id = 1 → m = 0 → openF l id m = (l, 0) := fun h1 h2 h3 => by unfold openF; rw [if_neg (by omega), if_neg (by simp [h1]), if_pos h2, if_pos h3]
    have r2 : modeOk m = true → id = 1 → m ≠ 0 → openF l id m = (l, 10) := fun h1 h2 h3 => by unfold openF; rw [if_neg (by omega), if_neg (by simp [h1]), if_pos h2, if_neg h3]
    have hone := atF_one l (id := id)
    simp only [leN_succ, eqN_self, leI_self, br_ff, br_tt, need_tt, andB_tt, List.drop_zero, List.nil_append, List.append_nil, Nat.zero_add, Nat.add_zero, Nat.sub_zero, List.take_length, Int.ofNat_eq_natCast, Int.toNat_natCast, Int.toNat_zero, pipeV_len, pipeV_lenL, pipeV_head, pipeV_all, pipeV_all1]
    rw [br_iff]
    refine ⟨fun g i k => ⟨hm, ?_⟩, fun g => ⟨hm, ?_⟩⟩
    · simp only [br_iff, need_iff, andB_t, andB_f, orB_t, orB_f, notB_t, notB_f, leI_t, leI_f, ltI_t, ltI_f, eqI_t, eqI_f, leN_t, leN_f, eqN_t, eqN_f, eqS_t, eqS_f, eqB_t, eqB_f, catOk_t, leC_t] at g
      rw [br_iff]
      refine ⟨fun hmo => ?_, fun hmo b => ?_⟩
      · rw [br_iff]; refine ⟨fun q => e (o1 g (by simp only [br_iff, need_iff, andB_t, andB_f, orB_t, orB_f, notB_t, notB_f, leI_t, leI_f, ltI_t, ltI_f, eqI_t, eqI_f, leN_t, leN_f, eqN_t, eqN_f, eqS_t, eqS_f, eqB_t, eqB_f, catOk_t, leC_t] at q; exact q)), fun q => ?_⟩
        have q : id = 1 := by simp only [br_iff, need_iff, andB_t, andB_f, orB_t, orB_f, notB_t, notB_f, leI_t, leI_f, ltI_t, ltI_f, eqI_t, eqI_f, leN_t, leN_f, eqN_t, eqN_f, eqS_t, eqS_f, eqB_t, eqB_f, catOk_t, leC_t] at q; exact q
        have q' : eqI id 1 = true := by simp only [br_iff, need_iff, andB_t, andB_f, orB_t, orB_f, notB_t, notB_f, leI_t, leI_f, ltI_t, ltI_f, eqI_t, eqI_f, leN_t, leN_f, eqN_t, eqN_f, eqS_t, eqS_f, eqB_t, eqB_f, catOk_t, leC_t]; exact q
        have t2 : op_vc_2 nx (pipeV l) id m K l i k = K (.tup [.agg [.int .i64 nx, .lst (pipeV l)], .int .i64 0]) [] := by unfold op_vc_2; simp only [q', leN_succ, eqN_self, leI_self, br_ff, br_tt, need_tt, andB_tt, List.drop_zero, List.nil_append, List.append_nil, Nat.zero_add, Nat.add_zero, Nat.sub_zero, List.take_length, Int.ofNat_eq_natCast, Int.toNat_natCast, Int.toNat_zero, pipeV_len, pipeV_lenL, pipeV_head, pipeV_all, pipeV_all1]
        rw [q', br_tt, br_iff, t2]
        exact ⟨fun q2 => e (r2 hmo q (by simp only [br_iff, need_iff, andB_t, andB_f, orB_t, orB_f, notB_t, notB_f, leI_t, leI_f, ltI_t, ltI_f, eqI_t, eqI_f, leN_t, leN_f, eqN_t, eqN_f, eqS_t, eqS_f, eqB_t, eqB_f, catOk_t, leC_t] at q2; exact q2)), fun q2 => e (r1 hmo q (by simp only [br_iff, need_iff, andB_t, andB_f, orB_t, orB_f, notB_t, notB_f, leI_t, leI_f, ltI_t, ltI_f, eqI_t, eqI_f, leN_t, leN_f, eqN_t, eqN_f, eqS_t, eqS_f, eqB_t, eqB_f, catOk_t, leC_t] at q2; exact q2))⟩
      · rw [br_iff]; exact ⟨fun q => e (o1 g (by simp only [br_iff, need_iff, andB_t, andB_f, orB_t, orB_f, notB_t, notB_f, leI_t, leI_f, ltI_t, ltI_f, eqI_t, eqI_f, leN_t, leN_f, eqN_t, eqN_f, eqS_t, eqS_f, eqB_t, eqB_f, catOk_t, leC_t] at q; exact q)), fun q => e (bad hmo (by simp only [br_iff, need_iff, andB_t, andB_f, orB_t, orB_f, notB_t, notB_f, leI_t, leI_f, ltI_t, ltI_f, eqI_t, eqI_f, leN_t, leN_f, eqN_t, eqN_f, eqS_t, eqS_f, eqB_t, eqB_f, catOk_t, leC_t] at q; omega))⟩
    · simp only [br_iff, need_iff, andB_t, andB_f, orB_t, orB_f, notB_t, notB_f, leI_t, leI_f, ltI_t, ltI_f, eqI_t, eqI_f, leN_t, leN_f, eqN_t, eqN_f, eqS_t, eqS_f, eqB_t, eqB_f, catOk_t, leC_t] at g
      obtain ⟨i, x, hi, gx, hlt, h1, hx⟩ := at_found (l := l) (id := id) (by omega)
      rw [br_iff]
      refine ⟨fun hmo => ?_, fun hmo b => e (bad hmo (by omega))⟩
      rw [show eqI id 1 = false by simp only [br_iff, need_iff, andB_t, andB_f, orB_t, orB_f, notB_t, notB_f, leI_t, leI_f, ltI_t, ltI_f, eqI_t, eqI_f, leN_t, leN_f, eqN_t, eqN_f, eqS_t, eqS_f, eqB_t, eqB_f, catOk_t, leC_t]; omega]
      simp only [leN_succ, eqN_self, leI_self, br_ff, br_tt, need_tt, andB_tt, List.drop_zero, List.nil_append, List.append_nil, Nat.zero_add, Nat.add_zero, Nat.sub_zero, List.take_length, Int.ofNat_eq_natCast, Int.toNat_natCast, Int.toNat_zero]
      unfold op_vc_1
      rw [show eqI id 1 = false by simp only [br_iff, need_iff, andB_t, andB_f, orB_t, orB_f, notB_t, notB_f, leI_t, leI_f, ltI_t, ltI_f, eqI_t, eqI_f, leN_t, leN_f, eqN_t, eqN_f, eqS_t, eqS_f, eqB_t, eqB_f, catOk_t, leC_t]; omega, hi]
      simp only [leN_succ, eqN_self, leI_self, br_ff, br_tt, need_tt, andB_tt, List.drop_zero, List.nil_append, List.append_nil, Nat.zero_add, Nat.add_zero, Nat.sub_zero, List.take_length, Int.ofNat_eq_natCast, Int.toNat_natCast, Int.toNat_zero, pipeV_len, pipeV_lenL, pipeV_head, pipeV_all, pipeV_all1]
      rw [br_iff]
      refine ⟨fun q => e (r := (l, 11)) ?_, fun q => ?_⟩
      · simp only [br_iff, need_iff, andB_t, andB_f, orB_t, orB_f, notB_t, notB_f, leI_t, leI_f, ltI_t, ltI_f, eqI_t, eqI_f, leN_t, leN_f, eqN_t, eqN_f, eqS_t, eqS_f, eqB_t, eqB_f, catOk_t, leC_t] at q
        unfold openF; rw [if_neg (by omega), if_neg (by simp [hmo]), if_neg (by omega), if_pos q]
      simp only [br_iff, need_iff, andB_t, andB_f, orB_t, orB_f, notB_t, notB_f, leI_t, leI_f, ltI_t, ltI_f, eqI_t, eqI_f, leN_t, leN_f, eqN_t, eqN_f, eqS_t, eqS_f, eqB_t, eqB_f, catOk_t, leC_t] at q
      have e2 := @e _ (openF_at hi gx h1 hmo q)
      have hin : andB (leI 0 (i : Int)) (ltI (i : Int) (l.length : Int)) = true := by simp only [br_iff, need_iff, andB_t, andB_f, orB_t, orB_f, notB_t, notB_f, leI_t, leI_f, ltI_t, ltI_f, eqI_t, eqI_f, leN_t, leN_f, eqN_t, eqN_f, eqS_t, eqS_f, eqB_t, eqB_f, catOk_t, leC_t]; omega
      have hok : okRow (pipeV l) i 9 = true := pipeV_ok hlt
      have hk := mod2 (id := id)
      have hk2 : andB (leI 0 (modI id 2)) (ltI (modI id 2) 2) = true := by simp only [br_iff, need_iff, andB_t, andB_f, orB_t, orB_f, notB_t, notB_f, leI_t, leI_f, ltI_t, ltI_f, eqI_t, eqI_f, leN_t, leN_f, eqN_t, eqN_f, eqS_t, eqS_f, eqB_t, eqB_f, catOk_t, leC_t]; omega
      have b1 := end_ok ho gx (modI id 2)
      have b2 := rdF_r (modI m 16)
      have b3 := wrF_r (modI m 16)
      rw [need_iff, need_iff, need_iff]
      refine ⟨hin, hok, hk2, ?_⟩
      rw [part_end gx hk]
      repeat apply Exists.intro
      refine ⟨rfl, ?_⟩
      rw [subI_i64 (by omega) (by omega), subI_i64 (by omega) (by omega), addI_i64 (by omega) (by omega), addI_i64 (by omega) (by omega)]
      rw [br_iff]; refine ⟨fun q1 => ?_, fun q1 => ?_⟩
      · rw [show openE x id m = none by simp only [br_iff, need_iff, andB_t, andB_f, orB_t, orB_f, notB_t, notB_f, leI_t, leI_f, ltI_t, ltI_f, eqI_t, eqI_f, leN_t, leN_f, eqN_t, eqN_f, eqS_t, eqS_f, eqB_t, eqB_f, catOk_t, leC_t] at q1; unfold openE; rw [if_pos]; left; omega] at e2
        exact e2
      rw [br_iff]; refine ⟨fun q2 => ?_, fun q2 => ?_⟩
      · rw [show openE x id m = none by simp only [br_iff, need_iff, andB_t, andB_f, orB_t, orB_f, notB_t, notB_f, leI_t, leI_f, ltI_t, ltI_f, eqI_t, eqI_f, leN_t, leN_f, eqN_t, eqN_f, eqS_t, eqS_f, eqB_t, eqB_f, catOk_t, leC_t] at q2; unfold openE; rw [if_pos]; right; omega] at e2
        exact e2
      simp only [br_iff, need_iff, andB_t, andB_f, orB_t, orB_f, notB_t, notB_f, leI_t, leI_f, ltI_t, ltI_f, eqI_t, eqI_f, leN_t, leN_f, eqN_t, eqN_f, eqS_t, eqS_f, eqB_t, eqB_f, catOk_t, leC_t] at q1 q2
      rw [need_iff, need_iff, need_iff]
      refine ⟨hin, hok, hk2, _, put_end gx hk { endOf x (modI id 2) with readers := (endOf x (modI id 2)).readers + rdF (modI m 16), writers := (endOf x (modI id 2)).writers + wrF (modI m 16), ever := true }, ?_⟩
      rw [pset_all]
      rw [show openE x id m = some _ by unfold openE; rw [if_neg (by omega)]] at e2
      exact e2
  · exact h.elim
theorem rop_con {n : Nat} (hn : 5 ≤ n) : ConOk (evalF Tryd.prog cfgN n) 32 openCon := by
  intro vs bs K h
  unfold openCon at h
  split at h
  · rename_i nx xs id m
    obtain ⟨l, rfl, ho, hid, hm, hK⟩ := h
    refine run_of (lp := lpOf []) (by omega) (ct := ctOf [(43, atCon), (45, baseCon), (46, usesCon), (47, putCon)])
      (fun k hk => ctOf_ok (ctOf_cons (at_con (by omega)) (ctOf_cons (rbase_con (by omega)) (ctOf_cons (ruses_con (by omega)) (ctOf_cons (put_con (by omega)) (ctOf_nil _)))))) ?_
    rw [rop_vc]
    have hsz := ho.1
    have e : ∀ {r}, openF l id m = r → K (.tup [.agg [.int .i64 nx, .lst (pipeV r.1)], .int .i64 r.2]) [] := fun h => by subst h; exact hK
    refine ⟨l, rfl, by omega, hid, ?_⟩
    have bad : modeOk m = false → ¬ (atF l id < 0 ∧ id ≠ 1) → openF l id m = (l, 12) := fun h1 h2 => by unfold openF; rw [if_neg h2, if_pos h1]
    have o1 : atF l id < 0 → id ≠ 1 → openF l id m = (l, 8) := fun h1 h2 => by unfold openF; rw [if_pos ⟨h1, h2⟩]
    have r1 : modeOk m = true → id = 1 → m = 0 → openF l id m = (l, 0) := fun h1 h2 h3 => by unfold openF; rw [if_neg (by omega), if_neg (by simp [h1]), if_pos h2, if_pos h3]
    have r2 : modeOk m = true → id = 1 → m ≠ 0 → openF l id m = (l, 10) := fun h1 h2 h3 => by unfold openF; rw [if_neg (by omega), if_neg (by simp [h1]), if_pos h2, if_neg h3]
    have hone := atF_one l (id := id)
    rw [br_iff]
    refine ⟨fun g => ?_, fun g => ?_⟩
    · simp only [br_iff, need_iff, andB_t, andB_f, orB_t, orB_f, notB_t, notB_f, leI_t, leI_f, ltI_t, ltI_f, eqI_t, eqI_f, leN_t, leN_f, eqN_t, eqN_f, eqS_t, eqS_f, eqB_t, eqB_f, catOk_t, leC_t] at g
      rw [br_iff]
      refine ⟨fun q => e (o1 (by simp only [br_iff, need_iff, andB_t, andB_f, orB_t, orB_f, notB_t, notB_f, leI_t, leI_f, ltI_t, ltI_f, eqI_t, eqI_f, leN_t, leN_f, eqN_t, eqN_f, eqS_t, eqS_f, eqB_t, eqB_f, catOk_t, leC_t] at q; exact q) g), fun q => ?_⟩
      simp only [br_iff, need_iff, andB_t, andB_f, orB_t, orB_f, notB_t, notB_f, leI_t, leI_f, ltI_t, ltI_f, eqI_t, eqI_f, leN_t, leN_f, eqN_t, eqN_f, eqS_t, eqS_f, eqB_t, eqB_f, catOk_t, leC_t] at q
      obtain ⟨i, x, hi, gx, hlt, h1, hx⟩ := at_found (l := l) (id := id) (by omega)
      unfold rop_vc_1
      refine ⟨hm, ?_⟩
      rw [br_iff]
      refine ⟨fun hmo => ?_, fun hmo b => e (bad hmo (by omega))⟩
      rw [show eqI id 1 = false by simp only [br_iff, need_iff, andB_t, andB_f, orB_t, orB_f, notB_t, notB_f, leI_t, leI_f, ltI_t, ltI_f, eqI_t, eqI_f, leN_t, leN_f, eqN_t, eqN_f, eqS_t, eqS_f, eqB_t, eqB_f, catOk_t, leC_t]; omega]
      simp only [leN_succ, eqN_self, leI_self, br_ff, br_tt, need_tt, andB_tt, List.drop_zero, List.nil_append, List.append_nil, Nat.zero_add, Nat.add_zero, Nat.sub_zero, List.take_length, Int.ofNat_eq_natCast, Int.toNat_natCast, Int.toNat_zero]
      unfold rop_vc_2
      rw [show eqI id 1 = false by simp only [br_iff, need_iff, andB_t, andB_f, orB_t, orB_f, notB_t, notB_f, leI_t, leI_f, ltI_t, ltI_f, eqI_t, eqI_f, leN_t, leN_f, eqN_t, eqN_f, eqS_t, eqS_f, eqB_t, eqB_f, catOk_t, leC_t]; omega, hi]
      simp only [leN_succ, eqN_self, leI_self, br_ff, br_tt, need_tt, andB_tt, List.drop_zero, List.nil_append, List.append_nil, Nat.zero_add, Nat.add_zero, Nat.sub_zero, List.take_length, Int.ofNat_eq_natCast, Int.toNat_natCast, Int.toNat_zero, pipeV_len, pipeV_lenL, pipeV_head, pipeV_all, pipeV_all1]
      rw [br_iff]
      refine ⟨fun q => e (r := (l, 11)) ?_, fun q => ?_⟩
      · simp only [br_iff, need_iff, andB_t, andB_f, orB_t, orB_f, notB_t, notB_f, leI_t, leI_f, ltI_t, ltI_f, eqI_t, eqI_f, leN_t, leN_f, eqN_t, eqN_f, eqS_t, eqS_f, eqB_t, eqB_f, catOk_t, leC_t] at q
        unfold openF; rw [if_neg (by omega), if_neg (by simp [hmo]), if_neg (by omega), if_pos q]
      simp only [br_iff, need_iff, andB_t, andB_f, orB_t, orB_f, notB_t, notB_f, leI_t, leI_f, ltI_t, ltI_f, eqI_t, eqI_f, leN_t, leN_f, eqN_t, eqN_f, eqS_t, eqS_f, eqB_t, eqB_f, catOk_t, leC_t] at q
      have e2 := @e _ (openF_at hi gx h1 hmo q)
      have hin : andB (leI 0 (i : Int)) (ltI (i : Int) (l.length : Int)) = true := by simp only [br_iff, need_iff, andB_t, andB_f, orB_t, orB_f, notB_t, notB_f, leI_t, leI_f, ltI_t, ltI_f, eqI_t, eqI_f, leN_t, leN_f, eqN_t, eqN_f, eqS_t, eqS_f, eqB_t, eqB_f, catOk_t, leC_t]; omega
      have hok : okRow (pipeV l) i 9 = true := pipeV_ok hlt
      rw [show id.tmod 2 = modI id 2 from tmod_pos (by omega)]
      have hk := mod2 (id := id)
      have hk2 : andB (leI 0 (modI id 2)) (ltI (modI id 2) 2) = true := by simp only [br_iff, need_iff, andB_t, andB_f, orB_t, orB_f, notB_t, notB_f, leI_t, leI_f, ltI_t, ltI_f, eqI_t, eqI_f, leN_t, leN_f, eqN_t, eqN_f, eqS_t, eqS_f, eqB_t, eqB_f, catOk_t, leC_t]; omega
      have b1 := end_ok ho gx (modI id 2)
      have b2 := rdF_r (modI m 16)
      have b3 := wrF_r (modI m 16)
      rw [need_iff, need_iff, need_iff]
      refine ⟨hin, hok, hk2, ?_⟩
      rw [pipeV_row gx, sub_end hk]
      repeat apply Exists.intro
      refine ⟨rfl, ?_⟩
      rw [addI_i64 (by omega) (by omega), addI_i64 (by omega) (by omega)]
      rw [br_iff]; refine ⟨fun q1 => ?_, fun q1 => ?_⟩
      · rw [show openE x id m = none by simp only [br_iff, need_iff, andB_t, andB_f, orB_t, orB_f, notB_t, notB_f, leI_t, leI_f, ltI_t, ltI_f, eqI_t, eqI_f, leN_t, leN_f, eqN_t, eqN_f, eqS_t, eqS_f, eqB_t, eqB_f, catOk_t, leC_t] at q1; unfold openE; rw [if_pos]; left; omega] at e2
        exact e2
      rw [br_iff]; refine ⟨fun q2 => ?_, fun q2 => ?_⟩
      · rw [show openE x id m = none by simp only [br_iff, need_iff, andB_t, andB_f, orB_t, orB_f, notB_t, notB_f, leI_t, leI_f, ltI_t, ltI_f, eqI_t, eqI_f, leN_t, leN_f, eqN_t, eqN_f, eqS_t, eqS_f, eqB_t, eqB_f, catOk_t, leC_t] at q2; unfold openE; rw [if_pos]; right; omega] at e2
        exact e2
      simp only [br_iff, need_iff, andB_t, andB_f, orB_t, orB_f, notB_t, notB_f, leI_t, leI_f, ltI_t, ltI_f, eqI_t, eqI_f, leN_t, leN_f, eqN_t, eqN_f, eqS_t, eqS_f, eqB_t, eqB_f, catOk_t, leC_t] at q1 q2
      refine ⟨l, { endOf x (modI id 2) with readers := (endOf x (modI id 2)).readers + rdF (modI m 16), writers := (endOf x (modI id 2)).writers + wrF (modI m 16), ever := true }, i, x, rfl, rfl, by omega, rfl, gx, ?_⟩
      rw [show openE x id m = some _ by unfold openE; rw [if_neg (by omega)]] at e2
      exact e2
    · simp only [br_iff, need_iff, andB_t, andB_f, orB_t, orB_f, notB_t, notB_f, leI_t, leI_f, ltI_t, ltI_f, eqI_t, eqI_f, leN_t, leN_f, eqN_t, eqN_f, eqS_t, eqS_f, eqB_t, eqB_f, catOk_t, leC_t] at g
      have q' : eqI id 1 = true := by simp only [br_iff, need_iff, andB_t, andB_f, orB_t, orB_f, notB_t, notB_f, leI_t, leI_f, ltI_t, ltI_f, eqI_t, eqI_f, leN_t, leN_f, eqN_t, eqN_f, eqS_t, eqS_f, eqB_t, eqB_f, catOk_t, leC_t]; exact g
      unfold rop_vc_1
      refine ⟨hm, ?_⟩
      rw [br_iff]
      refine ⟨fun hmo => ?_, fun hmo b => e (bad hmo (by omega))⟩
      have t2 : rop_vc_2 nx (pipeV l) id m K l = K (.tup [.agg [.int .i64 nx, .lst (pipeV l)], .int .i64 0]) [] := by unfold rop_vc_2; simp only [q', leN_succ, eqN_self, leI_self, br_ff, br_tt, need_tt, andB_tt, List.drop_zero, List.nil_append, List.append_nil, Nat.zero_add, Nat.add_zero, Nat.sub_zero, List.take_length, Int.ofNat_eq_natCast, Int.toNat_natCast, Int.toNat_zero, pipeV_len, pipeV_lenL, pipeV_head, pipeV_all, pipeV_all1]
      rw [q', br_tt, br_iff, t2]
      exact ⟨fun q2 => e (r2 hmo g (by simp only [br_iff, need_iff, andB_t, andB_f, orB_t, orB_f, notB_t, notB_f, leI_t, leI_f, ltI_t, ltI_f, eqI_t, eqI_f, leN_t, leN_f, eqN_t, eqN_f, eqS_t, eqS_f, eqB_t, eqB_f, catOk_t, leC_t] at q2; exact q2)), fun q2 => e (r1 hmo g (by simp only [br_iff, need_iff, andB_t, andB_f, orB_t, orB_f, notB_t, notB_f, leI_t, leI_f, ltI_t, ltI_f, eqI_t, eqI_f, leN_t, leN_f, eqN_t, eqN_f, eqS_t, eqS_f, eqB_t, eqB_f, catOk_t, leC_t] at q2; exact q2))⟩
  · exact h.elim
end Go.Proofs.YtjplfafojmkpbaaDoor
namespace Go.Proofs.YtjplfafojmkpbaaDoor
open Go.RowKit
set_option maxRecDepth 100000
set_option linter.unusedVariables false
set_option linter.unusedSimpArgs false
theorem with_same (x : Pipe) {k : Int} (hk : k = 0 ∨ k = 1) : withE x k (endOf x k) = x := by rcases hk with rfl | rfl <;> rfl
theorem set_same {α : Type} {l : List α} {i : Nat} {x : α} (h : l[i]? = some x) : l.set i x = l := by
  obtain ⟨h1, rfl⟩ := List.getElem?_eq_some_iff.1 h
  exact List.set_getElem_self h1
/-- Whether a read of nothing is blocked. -/
def blockB (x : Pipe) (id m : Int) : Bool := decide (0 < m ∧ (0 < (endOf x (1 - modI id 2)).writers ∨ (endOf x (1 - modI id 2)).ever = false))
def readF (l : List Pipe) (id m : Int) : List Pipe × List UInt8 × Bool × Int :=
  if id = 1 then (l, [], false, 10) else if atF l id < 0 then (l, [], false, 8) else if m < 0 then (l, [], false, 1) else
  match l[(atF l id).toNat]? with
  | none => (l, [], false, 0)
  | some x => if (endOf x (modI id 2)).data = [] then (l, [], blockB x id m, 0)
    else (l.set (atF l id).toNat (withE x (modI id 2) { endOf x (modI id 2) with data := (endOf x (modI id 2)).data.drop m.toNat }), (endOf x (modI id 2)).data.take m.toNat, false, 0)
def readCon : Con := fun vs bs K => match vs, bs with
  | [.agg [.int .i64 n, .lst xs], .int .i64 id, .int .i64 m], [] => ∃ l, xs = pipeV l ∧ okL l ∧ id ≤ 9223372036854775807 ∧ m ≤ 9223372036854775807 ∧
      K (.tup [.agg [.int .i64 n, .lst (pipeV (readF l id m).1)], .str (readF l id m).2.1, .bool (readF l id m).2.2.1, .int .i64 (readF l id m).2.2.2]) []
  | _, _ => False
theorem readF_at {l : List Pipe} {id m : Int} {i : Nat} {x : Pipe} (hi : atF l id = (i : Int)) (gx : l[i]? = some x) (h1 : 1 < id) (hm : 0 ≤ m) :
    readF l id m = if (endOf x (modI id 2)).data = [] then (l, [], blockB x id m, 0)
    else (l.set i (withE x (modI id 2) { endOf x (modI id 2) with data := (endOf x (modI id 2)).data.drop m.toNat }), (endOf x (modI id 2)).data.take m.toNat, false, 0) := by
  unfold readF
  rw [if_neg (by omega), if_neg (by omega), if_neg (by omega), hi]
  simp only [Int.toNat_natCast, gx]
theorem cut_min (s : List UInt8) {m : Int} (hm : 0 ≤ m) : cutS s (minI m (lenS s)) (lenS s) = s.drop m.toNat ∧ cutS s 0 (minI m (lenS s)) = s.take m.toNat := by
  simp only [cutS, minI, lenS]
  constructor
  · rw [show ((s.length : Int)).toNat - (min m (s.length : Int)).toNat = s.length - (min m (s.length : Int)).toNat by simp]
    by_cases h : m ≤ (s.length : Int)
    · rw [Int.min_eq_left h, List.take_of_length_le (by simp)]
    · rw [Int.min_eq_right (by omega), List.drop_of_length_le (by simp), List.drop_of_length_le (by omega)]; simp
  · simp only [Int.toNat_zero, List.drop_zero, Nat.sub_zero]
    by_cases h : m ≤ (s.length : Int)
    · rw [Int.min_eq_left h]
    · rw [Int.min_eq_right (by omega), Int.toNat_natCast, List.take_length, List.take_of_length_le (by omega)]
theorem rd_con {n : Nat} (hn : 5 ≤ n) : ConOk (evalF Tryd.prog cfgN n) 16 readCon := by
  intro vs bs K h
  unfold readCon at h
  split at h
  · rename_i nx xs id m
    obtain ⟨l, rfl, ho, hid, hm, hK⟩ := h
    refine run_of (lp := lpOf []) (by omega) (ct := ctOf [(36, cloneCon), (40, endCon)]) (fun k hk => ctOf_ok (ctOf_cons (cl_con (by omega)) (ctOf_cons (end2_con (by omega)) (ctOf_nil _)))) ?_
    rw [rd_vc]
    have hsz := ho.1
    have e : ∀ {r}, readF l id m = r → K (.tup [.agg [.int .i64 nx, .lst (pipeV r.1)], .str r.2.1, .bool r.2.2.1, .int .i64 r.2.2.2]) [] := fun h => by subst h; exact hK
    refine ⟨l, rfl, by omega, l, rfl, by omega, hid, ?_⟩
    simp only [leN_succ, eqN_self, leI_self, br_ff, br_tt, need_tt, andB_tt, List.drop_zero, List.nil_append, List.append_nil, Nat.zero_add, Nat.add_zero, Nat.sub_zero, List.take_length, Int.ofNat_eq_natCast, Int.toNat_natCast, Int.toNat_zero, pipeV_len, pipeV_lenL, pipeV_head, pipeV_all, pipeV_all1]
    rw [br_iff]; refine ⟨fun g => e (r := (l, [], false, 10)) (by simp only [br_iff, need_iff, andB_t, andB_f, orB_t, orB_f, notB_t, notB_f, leI_t, leI_f, ltI_t, ltI_f, eqI_t, eqI_f, leN_t, leN_f, eqN_t, eqN_f, eqS_t, eqS_f, eqB_t, eqB_f, catOk_t, leC_t] at g; unfold readF; rw [if_pos g]), fun g1 => ?_⟩
    simp only [br_iff, need_iff, andB_t, andB_f, orB_t, orB_f, notB_t, notB_f, leI_t, leI_f, ltI_t, ltI_f, eqI_t, eqI_f, leN_t, leN_f, eqN_t, eqN_f, eqS_t, eqS_f, eqB_t, eqB_f, catOk_t, leC_t] at g1
    rw [br_iff]; refine ⟨fun g => e (r := (l, [], false, 8)) (by simp only [br_iff, need_iff, andB_t, andB_f, orB_t, orB_f, notB_t, notB_f, leI_t, leI_f, ltI_t, ltI_f, eqI_t, eqI_f, leN_t, leN_f, eqN_t, eqN_f, eqS_t, eqS_f, eqB_t, eqB_f, catOk_t, leC_t] at g; unfold readF; rw [if_neg g1, if_pos g]), fun g2 => ?_⟩
    simp only [br_iff, need_iff, andB_t, andB_f, orB_t, orB_f, notB_t, notB_f, leI_t, leI_f, ltI_t, ltI_f, eqI_t, eqI_f, leN_t, leN_f, eqN_t, eqN_f, eqS_t, eqS_f, eqB_t, eqB_f, catOk_t, leC_t] at g2
    rw [br_iff]; refine ⟨fun g => e (r := (l, [], false, 1)) (by simp only [br_iff, need_iff, andB_t, andB_f, orB_t, orB_f, notB_t, notB_f, leI_t, leI_f, ltI_t, ltI_f, eqI_t, eqI_f, leN_t, leN_f, eqN_t, eqN_f, eqS_t, eqS_f, eqB_t, eqB_f, catOk_t, leC_t] at g; unfold readF; rw [if_neg g1, if_neg (by omega), if_pos g]), fun g3 => ?_⟩
    simp only [br_iff, need_iff, andB_t, andB_f, orB_t, orB_f, notB_t, notB_f, leI_t, leI_f, ltI_t, ltI_f, eqI_t, eqI_f, leN_t, leN_f, eqN_t, eqN_f, eqS_t, eqS_f, eqB_t, eqB_f, catOk_t, leC_t] at g3
    obtain ⟨i, x, hi, gx, hlt, h1, hx⟩ := at_found (l := l) (id := id) (by omega)
    have e2 := @e _ (readF_at hi gx h1 (m := m) (by omega))
    rw [hi]
    simp only [leN_succ, eqN_self, leI_self, br_ff, br_tt, need_tt, andB_tt, List.drop_zero, List.nil_append, List.append_nil, Nat.zero_add, Nat.add_zero, Nat.sub_zero, List.take_length, Int.ofNat_eq_natCast, Int.toNat_natCast, Int.toNat_zero]
    have hin : andB (leI 0 (i : Int)) (ltI (i : Int) (l.length : Int)) = true := by simp only [br_iff, need_iff, andB_t, andB_f, orB_t, orB_f, notB_t, notB_f, leI_t, leI_f, ltI_t, ltI_f, eqI_t, eqI_f, leN_t, leN_f, eqN_t, eqN_f, eqS_t, eqS_f, eqB_t, eqB_f, catOk_t, leC_t]; omega
    have hok : okRow (pipeV l) i 9 = true := pipeV_ok hlt
    have hk := mod2 (id := id)
    have hk2 : andB (leI 0 (modI id 2)) (ltI (modI id 2) 2) = true := by simp only [br_iff, need_iff, andB_t, andB_f, orB_t, orB_f, notB_t, notB_f, leI_t, leI_f, ltI_t, ltI_f, eqI_t, eqI_f, leN_t, leN_f, eqN_t, eqN_f, eqS_t, eqS_f, eqB_t, eqB_f, catOk_t, leC_t]; omega
    have hs : subI .i64 1 (modI id 2) = 1 - modI id 2 := subI_i64 (by omega) (by omega)
    have hk3 : andB (leI 0 (1 - modI id 2)) (ltI (1 - modI id 2) 2) = true := by simp only [br_iff, need_iff, andB_t, andB_f, orB_t, orB_f, notB_t, notB_f, leI_t, leI_f, ltI_t, ltI_f, eqI_t, eqI_f, leN_t, leN_f, eqN_t, eqN_f, eqS_t, eqS_f, eqB_t, eqB_f, catOk_t, leC_t]; omega
    have hk' : 1 - modI id 2 = 0 ∨ 1 - modI id 2 = 1 := by omega
    rw [hs, need_iff, need_iff, need_iff]
    refine ⟨hin, hok, hk2, ?_⟩
    rw [part_end gx hk]
    repeat apply Exists.intro
    refine ⟨rfl, ?_⟩
    rw [need_iff, need_iff, need_iff]
    refine ⟨hin, hok, hk3, ?_⟩
    rw [part_end gx hk']
    repeat apply Exists.intro
    refine ⟨rfl, ?_⟩
    rw [br_iff]
    refine ⟨fun q => ?_, fun q => ?_⟩
    · rw [if_pos (by simp only [br_iff, need_iff, andB_t, andB_f, orB_t, orB_f, notB_t, notB_f, leI_t, leI_f, ltI_t, ltI_f, eqI_t, eqI_f, leN_t, leN_f, eqN_t, eqN_f, eqS_t, eqS_f, eqB_t, eqB_f, catOk_t, leC_t] at q; exact q)] at e2
      have bl : ∀ {b}, b = blockB x id m → K (.tup [.agg [.int .i64 nx, .lst (pipeV l)], .str [], .bool b, .int .i64 0]) [] := fun h => by rw [h]; exact e2
      rw [br_iff]; refine ⟨fun q2 => ?_, fun q2 => bl (by simp only [br_iff, need_iff, andB_t, andB_f, orB_t, orB_f, notB_t, notB_f, leI_t, leI_f, ltI_t, ltI_f, eqI_t, eqI_f, leN_t, leN_f, eqN_t, eqN_f, eqS_t, eqS_f, eqB_t, eqB_f, catOk_t, leC_t] at q2; simp [blockB]; omega)⟩
      rw [br_iff]; refine ⟨fun q3 => bl (by simp only [br_iff, need_iff, andB_t, andB_f, orB_t, orB_f, notB_t, notB_f, leI_t, leI_f, ltI_t, ltI_f, eqI_t, eqI_f, leN_t, leN_f, eqN_t, eqN_f, eqS_t, eqS_f, eqB_t, eqB_f, catOk_t, leC_t] at q2 q3; simp [blockB, q2, q3]), fun q3 => bl ?_⟩
      simp only [br_iff, need_iff, andB_t, andB_f, orB_t, orB_f, notB_t, notB_f, leI_t, leI_f, ltI_t, ltI_f, eqI_t, eqI_f, leN_t, leN_f, eqN_t, eqN_f, eqS_t, eqS_f, eqB_t, eqB_f, catOk_t, leC_t] at q2 q3
      rw [Bool.eq_iff_iff]; simp [blockB, notB, q2]; omega
    · rw [if_neg (by simp only [br_iff, need_iff, andB_t, andB_f, orB_t, orB_f, notB_t, notB_f, leI_t, leI_f, ltI_t, ltI_f, eqI_t, eqI_f, leN_t, leN_f, eqN_t, eqN_f, eqS_t, eqS_f, eqB_t, eqB_f, catOk_t, leC_t] at q; exact q)] at e2
      have hmin : andB (leI 0 (minI m (lenS (endOf x (modI id 2)).data))) (leI (minI m (lenS (endOf x (modI id 2)).data)) (lenS (endOf x (modI id 2)).data)) = true := by simp only [br_iff, need_iff, andB_t, andB_f, orB_t, orB_f, notB_t, notB_f, leI_t, leI_f, ltI_t, ltI_f, eqI_t, eqI_f, leN_t, leN_f, eqN_t, eqN_f, eqS_t, eqS_f, eqB_t, eqB_f, catOk_t, leC_t, minI, lenS]; omega
      rw [need_iff, need_iff, need_iff, need_iff]
      refine ⟨hmin, hin, hok, hk2, _, put_dt gx hk _, ?_⟩
      obtain ⟨c1, c2⟩ := cut_min (endOf x (modI id 2)).data (m := m) (by omega)
      rw [need_iff, pset_all, c1, c2]
      exact ⟨hmin, e2⟩
  · exact h.elim
theorem rrd_con {n : Nat} (hn : 5 ≤ n) : ConOk (evalF Tryd.prog cfgN n) 33 readCon := by
  intro vs bs K h
  unfold readCon at h
  split at h
  · rename_i nx xs id m
    obtain ⟨l, rfl, ho, hid, hm, hK⟩ := h
    refine run_of (lp := lpOf []) (by omega) (ct := ctOf [(43, atCon), (47, putCon)]) (fun k hk => ctOf_ok (ctOf_cons (at_con (by omega)) (ctOf_cons (put_con (by omega)) (ctOf_nil _)))) ?_
    rw [rrd_vc]
    have hsz := ho.1
    have e : ∀ {r}, readF l id m = r → K (.tup [.agg [.int .i64 nx, .lst (pipeV r.1)], .str r.2.1, .bool r.2.2.1, .int .i64 r.2.2.2]) [] := fun h => by subst h; exact hK
    refine ⟨l, rfl, by omega, hid, ?_⟩
    rw [br_iff]; refine ⟨fun g => e (r := (l, [], false, 10)) (by simp only [br_iff, need_iff, andB_t, andB_f, orB_t, orB_f, notB_t, notB_f, leI_t, leI_f, ltI_t, ltI_f, eqI_t, eqI_f, leN_t, leN_f, eqN_t, eqN_f, eqS_t, eqS_f, eqB_t, eqB_f, catOk_t, leC_t] at g; unfold readF; rw [if_pos g]), fun g1 => ?_⟩
    simp only [br_iff, need_iff, andB_t, andB_f, orB_t, orB_f, notB_t, notB_f, leI_t, leI_f, ltI_t, ltI_f, eqI_t, eqI_f, leN_t, leN_f, eqN_t, eqN_f, eqS_t, eqS_f, eqB_t, eqB_f, catOk_t, leC_t] at g1
    rw [br_iff]; refine ⟨fun g => e (r := (l, [], false, 8)) (by simp only [br_iff, need_iff, andB_t, andB_f, orB_t, orB_f, notB_t, notB_f, leI_t, leI_f, ltI_t, ltI_f, eqI_t, eqI_f, leN_t, leN_f, eqN_t, eqN_f, eqS_t, eqS_f, eqB_t, eqB_f, catOk_t, leC_t] at g; unfold readF; rw [if_neg g1, if_pos g]), fun g2 => ?_⟩
    simp only [br_iff, need_iff, andB_t, andB_f, orB_t, orB_f, notB_t, notB_f, leI_t, leI_f, ltI_t, ltI_f, eqI_t, eqI_f, leN_t, leN_f, eqN_t, eqN_f, eqS_t, eqS_f, eqB_t, eqB_f, catOk_t, leC_t] at g2
    rw [br_iff]; refine ⟨fun g => e (r := (l, [], false, 1)) (by simp only [br_iff, need_iff, andB_t, andB_f, orB_t, orB_f, notB_t, notB_f, leI_t, leI_f, ltI_t, ltI_f, eqI_t, eqI_f, leN_t, leN_f, eqN_t, eqN_f, eqS_t, eqS_f, eqB_t, eqB_f, catOk_t, leC_t] at g; unfold readF; rw [if_neg g1, if_neg (by omega), if_pos g]), fun g3 => ?_⟩
    simp only [br_iff, need_iff, andB_t, andB_f, orB_t, orB_f, notB_t, notB_f, leI_t, leI_f, ltI_t, ltI_f, eqI_t, eqI_f, leN_t, leN_f, eqN_t, eqN_f, eqS_t, eqS_f, eqB_t, eqB_f, catOk_t, leC_t] at g3
    obtain ⟨i, x, hi, gx, hlt, h1, hx⟩ := at_found (l := l) (id := id) (by omega)
    have e2 := @e _ (readF_at hi gx h1 (m := m) (by omega))
    have hin : andB (leI 0 (i : Int)) (ltI (i : Int) (l.length : Int)) = true := by simp only [br_iff, need_iff, andB_t, andB_f, orB_t, orB_f, notB_t, notB_f, leI_t, leI_f, ltI_t, ltI_f, eqI_t, eqI_f, leN_t, leN_f, eqN_t, eqN_f, eqS_t, eqS_f, eqB_t, eqB_f, catOk_t, leC_t]; omega
    have hok : okRow (pipeV l) i 9 = true := pipeV_ok hlt
    have hk := mod2 (id := id)
    have hk2 : andB (leI 0 (modI id 2)) (ltI (modI id 2) 2) = true := by simp only [br_iff, need_iff, andB_t, andB_f, orB_t, orB_f, notB_t, notB_f, leI_t, leI_f, ltI_t, ltI_f, eqI_t, eqI_f, leN_t, leN_f, eqN_t, eqN_f, eqS_t, eqS_f, eqB_t, eqB_f, catOk_t, leC_t]; omega
    have hs : subI .i64 1 (modI id 2) = 1 - modI id 2 := subI_i64 (by omega) (by omega)
    have hk3 : andB (leI 0 (1 - modI id 2)) (ltI (1 - modI id 2) 2) = true := by simp only [br_iff, need_iff, andB_t, andB_f, orB_t, orB_f, notB_t, notB_f, leI_t, leI_f, ltI_t, ltI_f, eqI_t, eqI_f, leN_t, leN_f, eqN_t, eqN_f, eqS_t, eqS_f, eqB_t, eqB_f, catOk_t, leC_t]; omega
    have hk' : 1 - modI id 2 = 0 ∨ 1 - modI id 2 = 1 := by omega
    have hmod : id.tmod 2 = modI id 2 := tmod_pos (by omega)
    have tail : ((endOf x (modI id 2)).data = [] → blockB x id m = false) → rrd_vc_1 nx (pipeV l) id m K (endOf x (modI id 2)).data (endOf x (modI id 2)).readers (endOf x (modI id 2)).writers (endOf x (modI id 2)).ever l := by
      intro hb
      unfold rrd_vc_1
      have hmin : andB (leI 0 (minI m (lenS (endOf x (modI id 2)).data))) (leI (minI m (lenS (endOf x (modI id 2)).data)) (lenS (endOf x (modI id 2)).data)) = true := by simp only [br_iff, need_iff, andB_t, andB_f, orB_t, orB_f, notB_t, notB_f, leI_t, leI_f, ltI_t, ltI_f, eqI_t, eqI_f, leN_t, leN_f, eqN_t, eqN_f, eqS_t, eqS_f, eqB_t, eqB_f, catOk_t, leC_t, minI, lenS]; omega
      obtain ⟨c1, c2⟩ := cut_min (endOf x (modI id 2)).data (m := m) (by omega)
      rw [need_iff, need_iff, c1, c2, hmod]
      refine ⟨hmin, hmin, l, { endOf x (modI id 2) with data := (endOf x (modI id 2)).data.drop m.toNat }, i, x, rfl, rfl, by omega, hi, gx, ?_⟩
      by_cases q : (endOf x (modI id 2)).data = []
      · rw [if_pos q, hb q] at e2
        have q2 : ({ endOf x (modI id 2) with data := (endOf x (modI id 2)).data.drop m.toNat } : End) = endOf x (modI id 2) := by rw [q]; generalize endOf x (modI id 2) = E at q; cases E; simp_all
        rw [q2, with_same x hk, set_same gx, q]
        simpa using e2
      · rw [if_neg q] at e2; exact e2
    rw [hi, hmod]
    simp only [leN_succ, eqN_self, leI_self, br_ff, br_tt, need_tt, andB_tt, List.drop_zero, List.nil_append, List.append_nil, Nat.zero_add, Nat.add_zero, Nat.sub_zero, List.take_length, Int.ofNat_eq_natCast, Int.toNat_natCast, Int.toNat_zero, pipeV_len, pipeV_lenL, pipeV_head, pipeV_all, pipeV_all1]
    rw [hs, need_iff, need_iff, need_iff]
    refine ⟨hin, hok, hk2, ?_⟩
    rw [pipeV_row gx, sub_end hk]
    repeat apply Exists.intro
    refine ⟨rfl, ?_⟩
    rw [need_iff, need_iff, need_iff]
    refine ⟨hin, hok, hk3, ?_⟩
    rw [sub_end hk']
    repeat apply Exists.intro
    refine ⟨rfl, ?_⟩
    rw [br_iff]
    refine ⟨fun q => ?_, fun q => tail fun h => absurd h (by simp only [br_iff, need_iff, andB_t, andB_f, orB_t, orB_f, notB_t, notB_f, leI_t, leI_f, ltI_t, ltI_f, eqI_t, eqI_f, leN_t, leN_f, eqN_t, eqN_f, eqS_t, eqS_f, eqB_t, eqB_f, catOk_t, leC_t] at q; exact q)⟩
    have q : (endOf x (modI id 2)).data = [] := by simp only [br_iff, need_iff, andB_t, andB_f, orB_t, orB_f, notB_t, notB_f, leI_t, leI_f, ltI_t, ltI_f, eqI_t, eqI_f, leN_t, leN_f, eqN_t, eqN_f, eqS_t, eqS_f, eqB_t, eqB_f, catOk_t, leC_t] at q; exact q
    have bl : ∀ {b}, b = blockB x id m → K (.tup [.agg [.int .i64 nx, .lst (pipeV l)], .str [], .bool b, .int .i64 0]) [] := fun h => by rw [h]; rw [if_pos q] at e2; exact e2
    rw [br_iff]; refine ⟨fun q2 => ?_, fun q2 => tail fun _ => by simp only [br_iff, need_iff, andB_t, andB_f, orB_t, orB_f, notB_t, notB_f, leI_t, leI_f, ltI_t, ltI_f, eqI_t, eqI_f, leN_t, leN_f, eqN_t, eqN_f, eqS_t, eqS_f, eqB_t, eqB_f, catOk_t, leC_t] at q2; simp [blockB]; omega⟩
    simp only [br_iff, need_iff, andB_t, andB_f, orB_t, orB_f, notB_t, notB_f, leI_t, leI_f, ltI_t, ltI_f, eqI_t, eqI_f, leN_t, leN_f, eqN_t, eqN_f, eqS_t, eqS_f, eqB_t, eqB_f, catOk_t, leC_t] at q2
    rw [br_iff]; refine ⟨fun q3 => bl (by simp only [br_iff, need_iff, andB_t, andB_f, orB_t, orB_f, notB_t, notB_f, leI_t, leI_f, ltI_t, ltI_f, eqI_t, eqI_f, leN_t, leN_f, eqN_t, eqN_f, eqS_t, eqS_f, eqB_t, eqB_f, catOk_t, leC_t] at q3; simp [blockB, q2, q3]), fun q3 => ?_⟩
    simp only [br_iff, need_iff, andB_t, andB_f, orB_t, orB_f, notB_t, notB_f, leI_t, leI_f, ltI_t, ltI_f, eqI_t, eqI_f, leN_t, leN_f, eqN_t, eqN_f, eqS_t, eqS_f, eqB_t, eqB_f, catOk_t, leC_t] at q3
    rw [br_iff]; refine ⟨fun q4 => bl (by simp only [br_iff, need_iff, andB_t, andB_f, orB_t, orB_f, notB_t, notB_f, leI_t, leI_f, ltI_t, ltI_f, eqI_t, eqI_f, leN_t, leN_f, eqN_t, eqN_f, eqS_t, eqS_f, eqB_t, eqB_f, catOk_t, leC_t] at q4; simp [blockB, q2, q4]), fun q4 => tail fun _ => ?_⟩
    simp only [br_iff, need_iff, andB_t, andB_f, orB_t, orB_f, notB_t, notB_f, leI_t, leI_f, ltI_t, ltI_f, eqI_t, eqI_f, leN_t, leN_f, eqN_t, eqN_f, eqS_t, eqS_f, eqB_t, eqB_f, catOk_t, leC_t] at q4
    simp [blockB, q4]; omega
  · exact h.elim
def writeF (l : List Pipe) (id : Int) (s : List UInt8) : List Pipe × Int × Bool × Int :=
  if id = 1 then (l, 0, false, 10) else if atF l id < 0 then (l, 0, false, 8) else if 8192 < s.length then (l, 0, false, 4) else
  match l[(atF l id).toNat]? with
  | none => (l, 0, false, 0)
  | some x => if (endOf x (1 - modI id 2)).ever = true ∧ (endOf x (1 - modI id 2)).readers = 0 then (l, 0, false, 55)
    else if 8192 < (endOf x (1 - modI id 2)).data.length + s.length then (l, 0, true, 0)
    else (l.set (atF l id).toNat (withE x (1 - modI id 2) { endOf x (1 - modI id 2) with data := (endOf x (1 - modI id 2)).data ++ s }), s.length, false, 0)
def writeCon : Con := fun vs bs K => match vs, bs with
  | [.agg [.int .i64 n, .lst xs], .int .i64 id, .str s], [] => ∃ l, xs = pipeV l ∧ okL l ∧ id ≤ 9223372036854775807 ∧ s.length ≤ 100000 ∧
      K (.tup [.agg [.int .i64 n, .lst (pipeV (writeF l id s).1)], .int .i64 (writeF l id s).2.1, .bool (writeF l id s).2.2.1, .int .i64 (writeF l id s).2.2.2]) []
  | _, _ => False
theorem writeF_at {l : List Pipe} {id : Int} {s : List UInt8} {i : Nat} {x : Pipe} (hi : atF l id = (i : Int)) (gx : l[i]? = some x) (h1 : 1 < id) (hm : s.length ≤ 8192) :
    writeF l id s = if (endOf x (1 - modI id 2)).ever = true ∧ (endOf x (1 - modI id 2)).readers = 0 then (l, 0, false, 55)
    else if 8192 < (endOf x (1 - modI id 2)).data.length + s.length then (l, 0, true, 0)
    else (l.set i (withE x (1 - modI id 2) { endOf x (1 - modI id 2) with data := (endOf x (1 - modI id 2)).data ++ s }), (s.length : Int), false, 0) := by
  unfold writeF
  rw [if_neg (by omega), if_neg (by omega), if_neg (by omega), hi]
  simp only [Int.toNat_natCast, gx]
theorem wt_con {n : Nat} (hn : 5 ≤ n) : ConOk (evalF Tryd.prog cfgN n) 15 writeCon := by
  intro vs bs K h
  unfold writeCon at h
  split at h
  · rename_i nx xs id s
    obtain ⟨l, rfl, ho, hid, hm, hK⟩ := h
    refine run_of (lp := lpOf []) (by omega) (ct := ctOf [(36, cloneCon), (40, endCon)]) (fun k hk => ctOf_ok (ctOf_cons (cl_con (by omega)) (ctOf_cons (end2_con (by omega)) (ctOf_nil _)))) ?_
    rw [wt_vc]
    have hsz := ho.1
    have e : ∀ {r}, writeF l id s = r → K (.tup [.agg [.int .i64 nx, .lst (pipeV r.1)], .int .i64 r.2.1, .bool r.2.2.1, .int .i64 r.2.2.2]) [] := fun h => by subst h; exact hK
    refine ⟨l, rfl, by omega, l, rfl, by omega, hid, ?_⟩
    simp only [leN_succ, eqN_self, leI_self, br_ff, br_tt, need_tt, andB_tt, List.drop_zero, List.nil_append, List.append_nil, Nat.zero_add, Nat.add_zero, Nat.sub_zero, List.take_length, Int.ofNat_eq_natCast, Int.toNat_natCast, Int.toNat_zero, pipeV_len, pipeV_lenL, pipeV_head, pipeV_all, pipeV_all1]
    rw [br_iff]; refine ⟨fun g => e (r := (l, 0, false, 10)) (by simp only [br_iff, need_iff, andB_t, andB_f, orB_t, orB_f, notB_t, notB_f, leI_t, leI_f, ltI_t, ltI_f, eqI_t, eqI_f, leN_t, leN_f, eqN_t, eqN_f, eqS_t, eqS_f, eqB_t, eqB_f, catOk_t, leC_t] at g; unfold writeF; rw [if_pos g]), fun g1 => ?_⟩
    simp only [br_iff, need_iff, andB_t, andB_f, orB_t, orB_f, notB_t, notB_f, leI_t, leI_f, ltI_t, ltI_f, eqI_t, eqI_f, leN_t, leN_f, eqN_t, eqN_f, eqS_t, eqS_f, eqB_t, eqB_f, catOk_t, leC_t] at g1
    rw [br_iff]; refine ⟨fun g => e (r := (l, 0, false, 8)) (by simp only [br_iff, need_iff, andB_t, andB_f, orB_t, orB_f, notB_t, notB_f, leI_t, leI_f, ltI_t, ltI_f, eqI_t, eqI_f, leN_t, leN_f, eqN_t, eqN_f, eqS_t, eqS_f, eqB_t, eqB_f, catOk_t, leC_t] at g; unfold writeF; rw [if_neg g1, if_pos g]), fun g2 => ?_⟩
    simp only [br_iff, need_iff, andB_t, andB_f, orB_t, orB_f, notB_t, notB_f, leI_t, leI_f, ltI_t, ltI_f, eqI_t, eqI_f, leN_t, leN_f, eqN_t, eqN_f, eqS_t, eqS_f, eqB_t, eqB_f, catOk_t, leC_t] at g2
    rw [br_iff]; refine ⟨fun g => e (r := (l, 0, false, 4)) (by simp only [br_iff, need_iff, andB_t, andB_f, orB_t, orB_f, notB_t, notB_f, leI_t, leI_f, ltI_t, ltI_f, eqI_t, eqI_f, leN_t, leN_f, eqN_t, eqN_f, eqS_t, eqS_f, eqB_t, eqB_f, catOk_t, leC_t, lenS] at g; unfold writeF; rw [if_neg g1, if_neg (by omega), if_pos (by omega)]), fun g3 => ?_⟩
    simp only [br_iff, need_iff, andB_t, andB_f, orB_t, orB_f, notB_t, notB_f, leI_t, leI_f, ltI_t, ltI_f, eqI_t, eqI_f, leN_t, leN_f, eqN_t, eqN_f, eqS_t, eqS_f, eqB_t, eqB_f, catOk_t, leC_t, lenS] at g3
    obtain ⟨i, x, hi, gx, hlt, h1, hx⟩ := at_found (l := l) (id := id) (by omega)
    have e2 := @e _ (writeF_at hi gx h1 (s := s) (by omega))
    have hin : andB (leI 0 (i : Int)) (ltI (i : Int) (l.length : Int)) = true := by simp only [br_iff, need_iff, andB_t, andB_f, orB_t, orB_f, notB_t, notB_f, leI_t, leI_f, ltI_t, ltI_f, eqI_t, eqI_f, leN_t, leN_f, eqN_t, eqN_f, eqS_t, eqS_f, eqB_t, eqB_f, catOk_t, leC_t]; omega
    have hok : okRow (pipeV l) i 9 = true := pipeV_ok hlt
    have hk := mod2 (id := id)
    have hs : subI .i64 1 (modI id 2) = 1 - modI id 2 := subI_i64 (by omega) (by omega)
    have hk3 : andB (leI 0 (1 - modI id 2)) (ltI (1 - modI id 2) 2) = true := by simp only [br_iff, need_iff, andB_t, andB_f, orB_t, orB_f, notB_t, notB_f, leI_t, leI_f, ltI_t, ltI_f, eqI_t, eqI_f, leN_t, leN_f, eqN_t, eqN_f, eqS_t, eqS_f, eqB_t, eqB_f, catOk_t, leC_t]; omega
    have hk' : 1 - modI id 2 = 0 ∨ 1 - modI id 2 = 1 := by omega
    have b1 := (end_ok ho gx (1 - modI id 2)).1
    have tail : ¬ ((endOf x (1 - modI id 2)).ever = true ∧ (endOf x (1 - modI id 2)).readers = 0) → wt_vc_1 nx (pipeV l) id s K (endOf x (1 - modI id 2)).data l l := by
      intro hb
      rw [if_neg hb] at e2
      unfold wt_vc_1
      rw [hi, hs]
      simp only [leN_succ, eqN_self, leI_self, br_ff, br_tt, need_tt, andB_tt, List.drop_zero, List.nil_append, List.append_nil, Nat.zero_add, Nat.add_zero, Nat.sub_zero, List.take_length, Int.ofNat_eq_natCast, Int.toNat_natCast, Int.toNat_zero, pipeV_len, pipeV_lenL, pipeV_head, pipeV_all, pipeV_all1]
      rw [br_iff]
      refine ⟨fun q => ?_, fun q => ?_⟩
      · simp only [lenS] at q
        rw [addI_i64 (by omega) (by omega)] at q
        rw [if_pos (by simp only [br_iff, need_iff, andB_t, andB_f, orB_t, orB_f, notB_t, notB_f, leI_t, leI_f, ltI_t, ltI_f, eqI_t, eqI_f, leN_t, leN_f, eqN_t, eqN_f, eqS_t, eqS_f, eqB_t, eqB_f, catOk_t, leC_t] at q; omega)] at e2; exact e2
      simp only [lenS] at q
      rw [addI_i64 (by omega) (by omega)] at q
      rw [if_neg (by simp only [br_iff, need_iff, andB_t, andB_f, orB_t, orB_f, notB_t, notB_f, leI_t, leI_f, ltI_t, ltI_f, eqI_t, eqI_f, leN_t, leN_f, eqN_t, eqN_f, eqS_t, eqS_f, eqB_t, eqB_f, catOk_t, leC_t] at q; omega)] at e2
      rw [need_iff, need_iff, need_iff]
      refine ⟨hin, hok, hk3, _, part_dt gx hk', ?_⟩
      rw [need_iff, need_iff, need_iff, need_iff]
      refine ⟨by simp only [br_iff, need_iff, andB_t, andB_f, orB_t, orB_f, notB_t, notB_f, leI_t, leI_f, ltI_t, ltI_f, eqI_t, eqI_f, leN_t, leN_f, eqN_t, eqN_f, eqS_t, eqS_f, eqB_t, eqB_f, catOk_t, leC_t]; omega, hin, hok, hk3, _, put_dt gx hk' _, ?_⟩
      rw [pset_all]
      exact e2
    rw [hi]
    simp only [leN_succ, eqN_self, leI_self, br_ff, br_tt, need_tt, andB_tt, List.drop_zero, List.nil_append, List.append_nil, Nat.zero_add, Nat.add_zero, Nat.sub_zero, List.take_length, Int.ofNat_eq_natCast, Int.toNat_natCast, Int.toNat_zero, pipeV_len, pipeV_lenL, pipeV_head, pipeV_all, pipeV_all1]
    rw [hs, need_iff, need_iff, need_iff]
    refine ⟨hin, hok, hk3, ?_⟩
    rw [part_end gx hk']
    repeat apply Exists.intro
    refine ⟨rfl, ?_⟩
    rw [br_iff]
    refine ⟨fun q => ?_, fun q => tail fun h => by rw [h.1] at q; cases q⟩
    rw [br_iff]
    refine ⟨fun q2 => ?_, fun q2 => tail fun h => by simp only [br_iff, need_iff, andB_t, andB_f, orB_t, orB_f, notB_t, notB_f, leI_t, leI_f, ltI_t, ltI_f, eqI_t, eqI_f, leN_t, leN_f, eqN_t, eqN_f, eqS_t, eqS_f, eqB_t, eqB_f, catOk_t, leC_t] at q2; exact q2 h.2⟩
    rw [if_pos ⟨q, by simp only [br_iff, need_iff, andB_t, andB_f, orB_t, orB_f, notB_t, notB_f, leI_t, leI_f, ltI_t, ltI_f, eqI_t, eqI_f, leN_t, leN_f, eqN_t, eqN_f, eqS_t, eqS_f, eqB_t, eqB_f, catOk_t, leC_t] at q2; exact q2⟩] at e2
    exact e2
  · exact h.elim
theorem rwt_con {n : Nat} (hn : 5 ≤ n) : ConOk (evalF Tryd.prog cfgN n) 34 writeCon := by
  intro vs bs K h
  unfold writeCon at h
  split at h
  · rename_i nx xs id s
    obtain ⟨l, rfl, ho, hid, hm, hK⟩ := h
    refine run_of (lp := lpOf []) (by omega) (ct := ctOf [(43, atCon), (47, putCon)]) (fun k hk => ctOf_ok (ctOf_cons (at_con (by omega)) (ctOf_cons (put_con (by omega)) (ctOf_nil _)))) ?_
    rw [rwt_vc]
    have hsz := ho.1
    have e : ∀ {r}, writeF l id s = r → K (.tup [.agg [.int .i64 nx, .lst (pipeV r.1)], .int .i64 r.2.1, .bool r.2.2.1, .int .i64 r.2.2.2]) [] := fun h => by subst h; exact hK
    refine ⟨l, rfl, by omega, hid, ?_⟩
    rw [br_iff]; refine ⟨fun g => e (r := (l, 0, false, 10)) (by simp only [br_iff, need_iff, andB_t, andB_f, orB_t, orB_f, notB_t, notB_f, leI_t, leI_f, ltI_t, ltI_f, eqI_t, eqI_f, leN_t, leN_f, eqN_t, eqN_f, eqS_t, eqS_f, eqB_t, eqB_f, catOk_t, leC_t] at g; unfold writeF; rw [if_pos g]), fun g1 => ?_⟩
    simp only [br_iff, need_iff, andB_t, andB_f, orB_t, orB_f, notB_t, notB_f, leI_t, leI_f, ltI_t, ltI_f, eqI_t, eqI_f, leN_t, leN_f, eqN_t, eqN_f, eqS_t, eqS_f, eqB_t, eqB_f, catOk_t, leC_t] at g1
    rw [br_iff]; refine ⟨fun g => e (r := (l, 0, false, 8)) (by simp only [br_iff, need_iff, andB_t, andB_f, orB_t, orB_f, notB_t, notB_f, leI_t, leI_f, ltI_t, ltI_f, eqI_t, eqI_f, leN_t, leN_f, eqN_t, eqN_f, eqS_t, eqS_f, eqB_t, eqB_f, catOk_t, leC_t] at g; unfold writeF; rw [if_neg g1, if_pos g]), fun g2 => ?_⟩
    simp only [br_iff, need_iff, andB_t, andB_f, orB_t, orB_f, notB_t, notB_f, leI_t, leI_f, ltI_t, ltI_f, eqI_t, eqI_f, leN_t, leN_f, eqN_t, eqN_f, eqS_t, eqS_f, eqB_t, eqB_f, catOk_t, leC_t] at g2
    rw [br_iff]; refine ⟨fun g => e (r := (l, 0, false, 4)) (by simp only [br_iff, need_iff, andB_t, andB_f, orB_t, orB_f, notB_t, notB_f, leI_t, leI_f, ltI_t, ltI_f, eqI_t, eqI_f, leN_t, leN_f, eqN_t, eqN_f, eqS_t, eqS_f, eqB_t, eqB_f, catOk_t, leC_t, lenS] at g; unfold writeF; rw [if_neg g1, if_neg (by omega), if_pos (by omega)]), fun g3 => ?_⟩
    simp only [br_iff, need_iff, andB_t, andB_f, orB_t, orB_f, notB_t, notB_f, leI_t, leI_f, ltI_t, ltI_f, eqI_t, eqI_f, leN_t, leN_f, eqN_t, eqN_f, eqS_t, eqS_f, eqB_t, eqB_f, catOk_t, leC_t, lenS] at g3
    obtain ⟨i, x, hi, gx, hlt, h1, hx⟩ := at_found (l := l) (id := id) (by omega)
    have e2 := @e _ (writeF_at hi gx h1 (s := s) (by omega))
    have hin : andB (leI 0 (i : Int)) (ltI (i : Int) (l.length : Int)) = true := by simp only [br_iff, need_iff, andB_t, andB_f, orB_t, orB_f, notB_t, notB_f, leI_t, leI_f, ltI_t, ltI_f, eqI_t, eqI_f, leN_t, leN_f, eqN_t, eqN_f, eqS_t, eqS_f, eqB_t, eqB_f, catOk_t, leC_t]; omega
    have hok : okRow (pipeV l) i 9 = true := pipeV_ok hlt
    have hk := mod2 (id := id)
    have hs : subI .i64 1 (modI id 2) = 1 - modI id 2 := subI_i64 (by omega) (by omega)
    have hk3 : andB (leI 0 (1 - modI id 2)) (ltI (1 - modI id 2) 2) = true := by simp only [br_iff, need_iff, andB_t, andB_f, orB_t, orB_f, notB_t, notB_f, leI_t, leI_f, ltI_t, ltI_f, eqI_t, eqI_f, leN_t, leN_f, eqN_t, eqN_f, eqS_t, eqS_f, eqB_t, eqB_f, catOk_t, leC_t]; omega
    have hk' : 1 - modI id 2 = 0 ∨ 1 - modI id 2 = 1 := by omega
    have hmod : id.tmod 2 = modI id 2 := tmod_pos (by omega)
    have b1 := (end_ok ho gx (1 - modI id 2)).1
    have tail : ¬ ((endOf x (1 - modI id 2)).ever = true ∧ (endOf x (1 - modI id 2)).readers = 0) → rwt_vc_1 nx (pipeV l) id s K (endOf x (1 - modI id 2)).data (endOf x (1 - modI id 2)).readers (endOf x (1 - modI id 2)).writers (endOf x (1 - modI id 2)).ever l := by
      intro hb
      rw [if_neg hb] at e2
      unfold rwt_vc_1
      rw [br_iff]
      refine ⟨fun q => ?_, fun q => ?_⟩
      · simp only [lenS] at q
        rw [addI_i64 (by omega) (by omega)] at q
        rw [if_pos (by simp only [br_iff, need_iff, andB_t, andB_f, orB_t, orB_f, notB_t, notB_f, leI_t, leI_f, ltI_t, ltI_f, eqI_t, eqI_f, leN_t, leN_f, eqN_t, eqN_f, eqS_t, eqS_f, eqB_t, eqB_f, catOk_t, leC_t] at q; omega)] at e2; exact e2
      simp only [lenS] at q
      rw [addI_i64 (by omega) (by omega)] at q
      rw [if_neg (by simp only [br_iff, need_iff, andB_t, andB_f, orB_t, orB_f, notB_t, notB_f, leI_t, leI_f, ltI_t, ltI_f, eqI_t, eqI_f, leN_t, leN_f, eqN_t, eqN_f, eqS_t, eqS_f, eqB_t, eqB_f, catOk_t, leC_t] at q; omega)] at e2
      rw [need_iff, hmod, hs]
      exact ⟨by simp only [br_iff, need_iff, andB_t, andB_f, orB_t, orB_f, notB_t, notB_f, leI_t, leI_f, ltI_t, ltI_f, eqI_t, eqI_f, leN_t, leN_f, eqN_t, eqN_f, eqS_t, eqS_f, eqB_t, eqB_f, catOk_t, leC_t]; omega, l, { endOf x (1 - modI id 2) with data := (endOf x (1 - modI id 2)).data ++ s }, i, x, rfl, rfl, by omega, hi, gx, e2⟩
    rw [hi, hmod]
    simp only [leN_succ, eqN_self, leI_self, br_ff, br_tt, need_tt, andB_tt, List.drop_zero, List.nil_append, List.append_nil, Nat.zero_add, Nat.add_zero, Nat.sub_zero, List.take_length, Int.ofNat_eq_natCast, Int.toNat_natCast, Int.toNat_zero, pipeV_len, pipeV_lenL, pipeV_head, pipeV_all, pipeV_all1]
    rw [hs, need_iff, need_iff, need_iff]
    refine ⟨hin, hok, hk3, ?_⟩
    rw [pipeV_row gx, sub_end hk']
    repeat apply Exists.intro
    refine ⟨rfl, ?_⟩
    rw [br_iff]
    refine ⟨fun q => ?_, fun q => tail fun h => by rw [h.1] at q; cases q⟩
    rw [br_iff]
    refine ⟨fun q2 => ?_, fun q2 => tail fun h => by simp only [br_iff, need_iff, andB_t, andB_f, orB_t, orB_f, notB_t, notB_f, leI_t, leI_f, ltI_t, ltI_f, eqI_t, eqI_f, leN_t, leN_f, eqN_t, eqN_f, eqS_t, eqS_f, eqB_t, eqB_f, catOk_t, leC_t] at q2; exact q2 h.2⟩
    rw [if_pos ⟨q, by simp only [br_iff, need_iff, andB_t, andB_f, orB_t, orB_f, notB_t, notB_f, leI_t, leI_f, ltI_t, ltI_f, eqI_t, eqI_f, leN_t, leN_f, eqN_t, eqN_f, eqS_t, eqS_f, eqB_t, eqB_f, catOk_t, leC_t] at q2; exact q2⟩] at e2
    exact e2
  · exact h.elim
end Go.Proofs.YtjplfafojmkpbaaDoor
namespace Go.Proofs.YtjplfafojmkpbaaDoor
open Go.RowKit
set_option maxRecDepth 100000
set_option linter.unusedVariables false
set_option linter.unusedSimpArgs false
def nameF (id : Int) : List UInt8 := textN 10 (id / 2) ++ [if id % 2 = 0 then 97 else 98]

def nameCon : Con := fun vs bs K => match vs, bs with
  | [.int .i64 id], [] => 1 < id ∧ id ≤ 9223372036854775807 ∧ K (.str (nameF id)) []
  | _, _ => False

def digCon : Con := fun vs bs K => match vs, bs with
  | [.int .i64 n], [] => 0 < n ∧ n ≤ 9223372036854775807 ∧ K (.str (textN 10 n)) []
  | _, _ => False

structure rcC where
  p : Int
  z : Int
  nx : Int
  q : List (List V)
structure rcX where
  ys : List (List V)
  n : Nat
  k : Nat
  i : Int
def rcSt (c : rcC) (x : rcX) : St := ⟨[(6, .ptr 0 0 0), (7, .int .i64 c.p), (13, .ptr 1 0 0), (14, .ref 2 0 x.n x.k), (15, .int .i64 x.i)], [(0, ⟨true, true, true, [[.int .i64 c.z, .nils]]⟩), (1, ⟨true, true, true, [[.int .i64 c.nx, .lst c.q]]⟩), (2, ⟨true, false, true, x.ys⟩)]⟩
def rcUn (s : St) : Option (rcC × rcX) :=
  match s with
  | ⟨[(q0, .ptr q1 q2 q3), (q4, .int .i64 p), (q5, .ptr q6 q7 q8), (q9, .ref q10 q11 n k), (q12, .int .i64 i)], [(q13, ⟨true, true, true, [[.int .i64 z, .nils]]⟩), (q14, ⟨true, true, true, [[.int .i64 nx, .lst q]]⟩), (q15, ⟨true, false, true, ys⟩)]⟩ => bif Nat.beq q0 6 && Nat.beq q1 0 && Nat.beq q2 0 && Nat.beq q3 0 && Nat.beq q4 7 && Nat.beq q5 13 && Nat.beq q6 1 && Nat.beq q7 0 && Nat.beq q8 0 && Nat.beq q9 14 && Nat.beq q10 2 && Nat.beq q11 0 && Nat.beq q12 15 && Nat.beq q13 0 && Nat.beq q14 1 && Nat.beq q15 2 then some (⟨p, z, nx, q⟩, ⟨ys, n, k, i⟩) else none
  | _ => none
def rcL (inv : rcC → rcX → rcX → Nat → Prop) : LoopS where
  C := rcC
  X := rcX
  st := rcSt
  un := rcUn
  ok := by
    intro s c x h
    unfold rcUn at h
    split at h
    · simp only [Bool.cond_eq_ite] at h
      split at h
      · rename_i hg
        simp only [Bool.and_eq_true, Nat.beq_eq] at hg
        obtain ⟨⟨⟨⟨⟨⟨⟨⟨⟨⟨⟨⟨⟨⟨⟨rfl, rfl⟩, rfl⟩, rfl⟩, rfl⟩, rfl⟩, rfl⟩, rfl⟩, rfl⟩, rfl⟩, rfl⟩, rfl⟩, rfl⟩, rfl⟩, rfl⟩, rfl⟩ := hg
        cases h
        rfl
      · cases h
    · cases h
  inv := inv

structure saC where
  n1 : Int
  xs : List (List V)
  n2 : Int
  ys : List (List V)
structure saX where
  i : Int
def saSt (c : saC) (x : saX) : St := ⟨[(2, .ptr 0 0 0), (3, .ptr 1 0 0), (5, .int .i64 x.i)], [(0, ⟨true, true, true, [[.int .i64 c.n1, .lst c.xs]]⟩), (1, ⟨true, true, true, [[.int .i64 c.n2, .lst c.ys]]⟩)]⟩
def saUn (s : St) : Option (saC × saX) :=
  match s with
  | ⟨[(q0, .ptr q1 q2 q3), (q4, .ptr q5 q6 q7), (q8, .int .i64 i)], [(q9, ⟨true, true, true, [[.int .i64 n1, .lst xs]]⟩), (q10, ⟨true, true, true, [[.int .i64 n2, .lst ys]]⟩)]⟩ => bif Nat.beq q0 2 && Nat.beq q1 0 && Nat.beq q2 0 && Nat.beq q3 0 && Nat.beq q4 3 && Nat.beq q5 1 && Nat.beq q6 0 && Nat.beq q7 0 && Nat.beq q8 5 && Nat.beq q9 0 && Nat.beq q10 1 then some (⟨n1, xs, n2, ys⟩, ⟨i⟩) else none
  | _ => none
def saL (inv : saC → saX → saX → Nat → Prop) : LoopS where
  C := saC
  X := saX
  st := saSt
  un := saUn
  ok := by
    intro s c x h
    unfold saUn at h
    split at h
    · simp only [Bool.cond_eq_ite] at h
      split at h
      · rename_i hg
        simp only [Bool.and_eq_true, Nat.beq_eq] at hg
        obtain ⟨⟨⟨⟨⟨⟨⟨⟨⟨⟨rfl, rfl⟩, rfl⟩, rfl⟩, rfl⟩, rfl⟩, rfl⟩, rfl⟩, rfl⟩, rfl⟩, rfl⟩ := hg
        cases h
        rfl
      · cases h
    · cases h
  inv := inv

structure dgC where
structure dgX where
  s : List UInt8
  k : Int
def dgSt (c : dgC) (x : dgX) : St := ⟨[(3, .str x.s), (4, .int .i64 x.k)], []⟩
def dgUn (s : St) : Option (dgC × dgX) :=
  match s with
  | ⟨[(q0, .str s), (q1, .int .i64 k)], []⟩ => bif Nat.beq q0 3 && Nat.beq q1 4 then some (⟨⟩, ⟨s, k⟩) else none
  | _ => none
def dgL (inv : dgC → dgX → dgX → Nat → Prop) : LoopS where
  C := dgC
  X := dgX
  st := dgSt
  un := dgUn
  ok := by
    intro s c x h
    unfold dgUn at h
    split at h
    · simp only [Bool.cond_eq_ite] at h
      split at h
      · rename_i hg
        simp only [Bool.and_eq_true, Nat.beq_eq] at hg
        obtain ⟨rfl, rfl⟩ := hg
        cases h
        rfl
      · cases h
    · cases h
  inv := inv

theorem rcs_vc (n : Int) (xs : List (List V)) (id m : Int) (I : rcC → rcX → rcX → Nat → Prop) (K : V → List Bk → Prop) : vcF Tryd.prog cfgN (ctOf [(43, atCon), (45, baseCon), (46, usesCon), (47, putCon), (28, finRCon)]) (lpOf [(14, rcL I)]) 35 [.agg [.int .i64 n, .lst xs], .int .i64 id, .int .i64 m] [] K = (
  ∃ l6 : List Pipe, ((xs : List (List V)) = pipeV l6) ∧ (
  (l6.length ≤ 100000) ∧ (
  (id ≤ 9223372036854775807) ∧ (
  (m ≤ 9223372036854775807) ∧ (
  br (modeOk m) (
    br (ltI (atF l6 id) 0) (
      K (V.agg [V.int IntKind.i64 n, V.lst xs]) []) (
      need (andB (leI 0 (atF l6 id)) (ltI (atF l6 id) (lenL xs))) (
      need (okRow xs (atF l6 id).toNat 9) (
      need (andB (leI 0 (id.tmod 2)) (ltI (id.tmod 2) 2)) (
      ∃ s7 : List UInt8, ∃ n8 : Int, ∃ n9 : Int, ∃ b10 : Bool, ((sub (rowAt xs (atF l6 id)) (1 + (id.tmod 2).toNat * 4) 4 : Option (List V)) = some [V.str s7, V.int IntKind.i64 n8, V.int IntKind.i64 n9, V.bool b10]) ∧ (
      ∃ l11 : List Pipe, ∃ e12 : End, ∃ j13 : Nat, ∃ x14 : Pipe, ((xs : List (List V)) = pipeV l11) ∧ (
      (([V.str s7, V.int IntKind.i64 (maxI (subI IntKind.i64 n8 (rdF (modI m 16))) 0), V.int IntKind.i64 (maxI (subI IntKind.i64 n9 (wrF (modI m 16))) 0), V.bool b10] : List V) = [V.str e12.1, V.int IntKind.i64 e12.2, V.int IntKind.i64 e12.3, V.bool e12.4]) ∧ (
      (l11.length ≤ 100000) ∧ (
      ((atF l6 id : Int) = Int.ofNat j13) ∧ (
      ((l11.get?Internal j13 : Option Pipe) = some x14) ∧ (
      need (andB (leI 0 (atF l6 id)) (ltI (atF l6 id) (lenL (pipeV (l11.set j13 (withE x14 (id.tmod 2) e12)))))) (
      need (okRow (pipeV (l11.set j13 (withE x14 (id.tmod 2) e12))) (atF l6 id).toNat 9) (
      ∃ n15 : Int, ∃ s16 : List UInt8, ∃ n17 : Int, ∃ n18 : Int, ∃ b19 : Bool, ∃ s20 : List UInt8, ∃ n21 : Int, ∃ n22 : Int, ∃ b23 : Bool, ((sub (rowAt (pipeV (l11.set j13 (withE x14 (id.tmod 2) e12))) (atF l6 id)) 0 9 : Option (List V)) = some [V.int IntKind.i64 n15, V.str s16, V.int IntKind.i64 n17, V.int IntKind.i64 n18, V.bool b19, V.str s20, V.int IntKind.i64 n21, V.int IntKind.i64 n22, V.bool b23]) ∧ (
      ∃ x24 : Pipe, (([V.int IntKind.i64 n15, V.str s16, V.int IntKind.i64 n17, V.int IntKind.i64 n18, V.bool b19, V.str s20, V.int IntKind.i64 n21, V.int IntKind.i64 n22, V.bool b23] : List V) = [V.int IntKind.i64 x24.1, V.str x24.ends0.1, V.int IntKind.i64 x24.ends0.2, V.int IntKind.i64 x24.ends0.3, V.bool x24.ends0.4, V.str x24.ends1.1, V.int IntKind.i64 x24.ends1.2, V.int IntKind.i64 x24.ends1.3, V.bool x24.ends1.4]) ∧ (
      br (notB (finR x24)) (
        K (V.agg [V.int IntKind.i64 n, V.lst (pipeV (l11.set j13 (withE x14 (id.tmod 2) e12)))]) []) (
        (∃ m25 : Nat, (m25 < 18446744073709551616) ∧ (
        I (rcC.mk (atF l6 id) 0 n (pipeV (l11.set j13 (withE x14 (id.tmod 2) e12)))) (rcX.mk [] 0 0 0) (rcX.mk [] 0 0 0) m25)) ∧ (
        ∀ x25 : (rcL I).X, ∀ m26 : Nat, (I (rcC.mk (atF l6 id) 0 n (pipeV (l11.set j13 (withE x14 (id.tmod 2) e12)))) (rcX.mk [] 0 0 0) x25 m26) → (
        br (ltI x25.4 (lenL (pipeV (l11.set j13 (withE x14 (id.tmod 2) e12))))) (
          br (notB (eqI x25.4 (atF l6 id))) (
            need (andB (leI 0 x25.4) (ltI x25.4 (lenL (pipeV (l11.set j13 (withE x14 (id.tmod 2) e12)))))) (
            need (okRow (pipeV (l11.set j13 (withE x14 (id.tmod 2) e12))) x25.4.toNat 9) (
            ∃ n27 : Int, ∃ s28 : List UInt8, ∃ n29 : Int, ∃ n30 : Int, ∃ b31 : Bool, ∃ s32 : List UInt8, ∃ n33 : Int, ∃ n34 : Int, ∃ b35 : Bool, ((sub (rowAt (pipeV (l11.set j13 (withE x14 (id.tmod 2) e12))) x25.4) 0 9 : Option (List V)) = some [V.int IntKind.i64 n27, V.str s28, V.int IntKind.i64 n29, V.int IntKind.i64 n30, V.bool b31, V.str s32, V.int IntKind.i64 n33, V.int IntKind.i64 n34, V.bool b35]) ∧ (
            need (headOkP 9 x25.1) (
            br (leN (x25.2 + 1) x25.3) (
              ((rcC.mk (atF l6 id) (Int.ofNat 0) n (pipeV (l11.set j13 (withE x14 (id.tmod 2) e12))) : (rcL I).C) = rcC.mk (atF l6 id) 0 n (pipeV (l11.set j13 (withE x14 (id.tmod 2) e12)))) ∧ (
              ∃ m'36 : Nat, (m'36 < m26) ∧ (
              I (rcC.mk (atF l6 id) 0 n (pipeV (l11.set j13 (withE x14 (id.tmod 2) e12)))) (rcX.mk [] 0 0 0) (rcX.mk (List.take (0 + x25.2) x25.1 ++ [[V.int IntKind.i64 n27, V.str s28, V.int IntKind.i64 n29, V.int IntKind.i64 n30, V.bool b31, V.str s32, V.int IntKind.i64 n33, V.int IntKind.i64 n34, V.bool b35]] ++ List.drop (0 + x25.2 + 1) x25.1) (x25.2 + 1) x25.3 (addI IntKind.i64 x25.4 1)) m'36))) (
              need (eqN (0 + x25.2) x25.1.length) (
              need (leN ((x25.2 + 1) * 88) 140737488355328) (
              ((rcC.mk (atF l6 id) (Int.ofNat 0) n (pipeV (l11.set j13 (withE x14 (id.tmod 2) e12))) : (rcL I).C) = rcC.mk (atF l6 id) 0 n (pipeV (l11.set j13 (withE x14 (id.tmod 2) e12)))) ∧ (
              ∃ m'36 : Nat, (m'36 < m26) ∧ (
              I (rcC.mk (atF l6 id) 0 n (pipeV (l11.set j13 (withE x14 (id.tmod 2) e12)))) (rcX.mk [] 0 0 0) (rcX.mk (List.drop 0 x25.1 ++ [[V.int IntKind.i64 n27, V.str s28, V.int IntKind.i64 n29, V.int IntKind.i64 n30, V.bool b31, V.str s32, V.int IntKind.i64 n33, V.int IntKind.i64 n34, V.bool b35]]) (x25.2 + 1) (x25.2 + 1) (addI IntKind.i64 x25.4 1)) m'36)))))))))) (
            ((rcC.mk (atF l6 id) (Int.ofNat 0) n (pipeV (l11.set j13 (withE x14 (id.tmod 2) e12))) : (rcL I).C) = rcC.mk (atF l6 id) 0 n (pipeV (l11.set j13 (withE x14 (id.tmod 2) e12)))) ∧ (
            ∃ m'27 : Nat, (m'27 < m26) ∧ (
            I (rcC.mk (atF l6 id) 0 n (pipeV (l11.set j13 (withE x14 (id.tmod 2) e12)))) (rcX.mk [] 0 0 0) (rcX.mk x25.1 x25.2 x25.3 (addI IntKind.i64 x25.4 1)) m'27)))) (
          K (V.agg [V.int IntKind.i64 n, V.lst (List.take x25.2 (List.drop 0 x25.1))]) []))))))))))))))))))) (
    ∀ b7 : Int, br (ltI (atF l6 id) 0) (
      K (V.agg [V.int IntKind.i64 n, V.lst xs]) []) (
      K (V.agg [V.int IntKind.i64 n, V.lst xs]) []))))))) := by kernel_rfl

theorem sa_vc (n1 : Int) (xs : List (List V)) (n2 : Int) (ys : List (List V)) (I : saC → saX → saX → Nat → Prop) (K : V → List Bk → Prop) : vcF Tryd.prog cfgN (ctOf [(26, nextCon)]) (lpOf [(4, saL I)]) 17 [.agg [.int .i64 n1, .lst xs], .agg [.int .i64 n2, .lst ys]] [] K = (
  ∃ l6 : List Pipe, ((xs : List (List V)) = pipeV l6) ∧ (
  ∃ l7 : List Pipe, ((ys : List (List V)) = pipeV l7) ∧ (
  br (notB (eqI (nextF n1 l6) (nextF n2 l7))) (
    K (V.bool false) []) (
    br (notB (eqI (lenL xs) (lenL ys))) (
      K (V.bool false) []) (
      (∃ m8 : Nat, (m8 < 18446744073709551616) ∧ (
      I (saC.mk n1 xs n2 ys) (saX.mk 0) (saX.mk 0) m8)) ∧ (
      ∀ x8 : (saL I).X, ∀ m9 : Nat, (I (saC.mk n1 xs n2 ys) (saX.mk 0) x8 m9) → (
      br (ltI x8.1 (lenL xs)) (
        need (andB (leI 0 x8.1) (ltI x8.1 (lenL xs))) (
        need (okRow xs x8.1.toNat 9) (
        ∃ n10 : Int, ∃ s11 : List UInt8, ∃ n12 : Int, ∃ n13 : Int, ∃ b14 : Bool, ∃ s15 : List UInt8, ∃ n16 : Int, ∃ n17 : Int, ∃ b18 : Bool, ((sub (rowAt xs x8.1) 0 9 : Option (List V)) = some [V.int IntKind.i64 n10, V.str s11, V.int IntKind.i64 n12, V.int IntKind.i64 n13, V.bool b14, V.str s15, V.int IntKind.i64 n16, V.int IntKind.i64 n17, V.bool b18]) ∧ (
        need (andB (leI 0 x8.1) (ltI x8.1 (lenL ys))) (
        need (okRow ys x8.1.toNat 9) (
        ∃ n19 : Int, ∃ s20 : List UInt8, ∃ n21 : Int, ∃ n22 : Int, ∃ b23 : Bool, ∃ s24 : List UInt8, ∃ n25 : Int, ∃ n26 : Int, ∃ b27 : Bool, ((sub (rowAt ys x8.1) 0 9 : Option (List V)) = some [V.int IntKind.i64 n19, V.str s20, V.int IntKind.i64 n21, V.int IntKind.i64 n22, V.bool b23, V.str s24, V.int IntKind.i64 n25, V.int IntKind.i64 n26, V.bool b27]) ∧ (
        br (!(decide (n10 = n19) && (strEq s11 s20 && (decide (n12 = n21) && (decide (n13 = n22) && (b14 == b23 && true))) && (strEq s15 s24 && (decide (n16 = n25) && (decide (n17 = n26) && (b18 == b27 && true))) && true) && true))) (
          K (V.bool false) []) (
          ((saC.mk n1 xs n2 ys : (saL I).C) = saC.mk n1 xs n2 ys) ∧ (
          ∃ m'28 : Nat, (m'28 < m9) ∧ (
          I (saC.mk n1 xs n2 ys) (saX.mk 0) (saX.mk (addI IntKind.i64 x8.1 1)) m'28)))))))))) (
        K (V.bool true) [])))))))) := by kernel_rfl

theorem nm_vc (id : Int) (K : V → List Bk → Prop) : vcF Tryd.prog cfgN (ctOf []) (lpOf []) 42 [.int .i64 id] [] K = (
  need (inI64 (quoI IntKind.i64 id 2)) (
  need (andB (leI 0 (addI IntKind.i64 (id.tmod 2) 1)) (leI (addI IntKind.i64 (id.tmod 2) 1) 2)) (
  need (andB (leI 0 (id.tmod 2)) (leI (id.tmod 2) (addI IntKind.i64 (id.tmod 2) 1))) (
  need (catOk (textN 10 (quoI IntKind.i64 id 2)) (cutS [97, 98] (id.tmod 2) (addI IntKind.i64 (id.tmod 2) 1))) (
  K (V.str (catS (textN 10 (quoI IntKind.i64 id 2)) (cutS [97, 98] (id.tmod 2) (addI IntKind.i64 (id.tmod 2) 1)))) []))))) := by kernel_rfl

theorem dg_vc (n : Int) (I : dgC → dgX → dgX → Nat → Prop) (K : V → List Bk → Prop) : vcF Tryd.prog cfgN (ctOf []) (lpOf [(3, dgL I)]) 52 [.int .i64 n] [] K = (
  (∃ m3 : Nat, (m3 < 18446744073709551616) ∧ (
  I dgC.mk (dgX.mk [] n) (dgX.mk [] n) m3)) ∧ (
  ∀ x3 : (dgL I).X, ∀ m4 : Nat, (I dgC.mk (dgX.mk [] n) x3 m4) → (
  br (ltI 0 x3.2) (
    need (catOk [UInt8.ofNat (wrapI IntKind.u8 (addI IntKind.i64 48 (x3.2.tmod 10))).toNat] x3.1) (
    ((dgC.mk : (dgL I).C) = dgC.mk) ∧ (
    ∃ m'5 : Nat, (m'5 < m4) ∧ (
    I dgC.mk (dgX.mk [] n) (dgX.mk (UInt8.ofNat (wrapI IntKind.u8 (addI IntKind.i64 48 (x3.2.tmod 10))).toNat :: x3.1) (quoI IntKind.i64 x3.2 10)) m'5)))) (
    K (V.str x3.1) [])))) := by kernel_rfl

theorem rnm_vc (id : Int) (K : V → List Bk → Prop) : vcF Tryd.prog cfgN (ctOf [(52, digCon)]) (lpOf []) 44 [.int .i64 id] [] K = (
  br (eqI (id.tmod 2) 0) (
    (0 < quoI IntKind.i64 id 2) ∧ (
    (quoI IntKind.i64 id 2 ≤ 9223372036854775807) ∧ (
    need (catOk (textN 10 (quoI IntKind.i64 id 2)) [97]) (
    K (V.str (catS (textN 10 (quoI IntKind.i64 id 2)) [97])) [])))) (
    (0 < quoI IntKind.i64 id 2) ∧ (
    (quoI IntKind.i64 id 2 ≤ 9223372036854775807) ∧ (
    need (catOk (textN 10 (quoI IntKind.i64 id 2)) [98]) (
    K (V.str (catS (textN 10 (quoI IntKind.i64 id 2)) [98])) []))))) := by kernel_rfl

end Go.Proofs.YtjplfafojmkpbaaDoor
namespace Go.Proofs.YtjplfafojmkpbaaDoor
open Go.RowKit
set_option maxRecDepth 100000
set_option linter.unusedVariables false
set_option linter.unusedSimpArgs false
def closeE (x : Pipe) (id m : Int) : Pipe := withE x (modI id 2) { endOf x (modI id 2) with readers := maxI ((endOf x (modI id 2)).readers - rdF (modI m 16)) 0, writers := maxI ((endOf x (modI id 2)).writers - wrF (modI m 16)) 0 }
def closeF (l : List Pipe) (id m : Int) : List Pipe :=
  if atF l id < 0 ∨ modeOk m = false then l else match l[(atF l id).toNat]? with
  | none => l
  | some x => if finB (closeE x id m) then l.eraseIdx (atF l id).toNat else l.set (atF l id).toNat (closeE x id m)
def closeCon : Con := fun vs bs K => match vs, bs with
  | [.agg [.int .i64 n, .lst xs], .int .i64 id, .int .i64 m], [] => ∃ l, xs = pipeV l ∧ okL l ∧ id ≤ 9223372036854775807 ∧ m ≤ 9223372036854775807 ∧ K (.agg [.int .i64 n, .lst (pipeV (closeF l id m))]) []
  | _, _ => False
theorem closeF_at {l : List Pipe} {id m : Int} {i : Nat} {x : Pipe} (hi : atF l id = (i : Int)) (gx : l[i]? = some x) (hm : modeOk m = true) :
    closeF l id m = if finB (closeE x id m) then l.eraseIdx i else l.set i (closeE x id m) := by
  unfold closeF
  rw [if_neg (by rw [hi]; simp [hm]), hi]
  simp only [Int.toNat_natCast, gx]
theorem endOf_with (x : Pipe) {k : Int} (hk : k = 0 ∨ k = 1) (e : End) : endOf (withE x k e) k = e := by rcases hk with rfl | rfl <;> rfl
theorem with_with (x : Pipe) {k : Int} (hk : k = 0 ∨ k = 1) (e e' : End) : withE (withE x k e) k e' = withE x k e' := by rcases hk with rfl | rfl <;> rfl
theorem close_sound {x : Pipe} {id m : Int} (h0 : soundB x.ends0 = true) (h1 : soundB x.ends1 = true) : soundB (closeE x id m).ends0 = true ∧ soundB (closeE x id m).ends1 = true := by
  have b2 := rdF_r (modI m 16)
  have b3 := wrF_r (modI m 16)
  have main : ∀ e : End, soundB e = true → soundB { e with readers := maxI (e.readers - rdF (modI m 16)) 0, writers := maxI (e.writers - wrF (modI m 16)) 0 } = true := by
    intro e he
    have he := of_decide_eq_true (show decide _ = true from he)
    refine decide_eq_true ?_
    simp only [maxI]
    refine ⟨he.1, by omega, by omega, fun h => ?_⟩
    have := he.2.2.2 h
    omega
  unfold closeE
  rcases mod2 (id := id) with hk | hk
  · rw [hk]; exact ⟨main _ h0, h1⟩
  · rw [hk]; exact ⟨h0, main _ h1⟩
theorem okL_get {l : List Pipe} (h : okL l) {i : Nat} {x : Pipe} (gx : l[i]? = some x) : soundB x.ends0 = true ∧ soundB x.ends1 = true := h.2 x (List.mem_of_getElem? gx)
theorem cs_con {n : Nat} (hn : 5 ≤ n) : ConOk (evalF Tryd.prog cfgN n) 18 closeCon := by
  intro vs bs K h
  unfold closeCon at h
  split at h
  · rename_i nx xs id m
    obtain ⟨l, rfl, ho, hid, hm, hK⟩ := h
    refine run_of (lp := lpOf []) (by omega) (ct := ctOf [(36, cloneCon), (37, findCon), (38, baseCon), (39, usesCon), (29, finCon), (41, delCon)])
      (fun k hk => ctOf_ok (ctOf_cons (cl_con (by omega)) (ctOf_cons (find_con (by omega)) (ctOf_cons (base_con (by omega)) (ctOf_cons (uses_con (by omega)) (ctOf_cons (fin_con (by omega)) (ctOf_cons (del_con (by omega)) (ctOf_nil _)))))))) ?_
    rw [cs_vc]
    have hsz := ho.1
    have e : ∀ {r}, closeF l id m = r → K (.agg [.int .i64 nx, .lst (pipeV r)]) [] := fun h => by subst h; exact hK
    refine ⟨l, rfl, by omega, l, rfl, by omega, hid, ?_⟩
    simp only [leN_succ, eqN_self, leI_self, br_ff, br_tt, need_tt, andB_tt, List.drop_zero, List.nil_append, List.append_nil, Nat.zero_add, Nat.add_zero, Nat.sub_zero, List.take_length, Int.ofNat_eq_natCast, Int.toNat_natCast, Int.toNat_zero, pipeV_len, pipeV_lenL, pipeV_head, pipeV_all, pipeV_all1]
    have no : (atF l id < 0 ∨ modeOk m = false) → K (.agg [.int .i64 nx, .lst (pipeV l)]) [] := fun h => e (r := l) (by unfold closeF; rw [if_pos h])
    rw [br_iff]
    refine ⟨fun g i k => ⟨hm, ?_⟩, fun g => ⟨hm, ?_⟩⟩
    · have := no (.inl (by simp only [br_iff, need_iff, andB_t, andB_f, orB_t, orB_f, notB_t, notB_f, leI_t, leI_f, ltI_t, ltI_f, eqI_t, eqI_f, leN_t, leN_f, eqN_t, eqN_f, eqS_t, eqS_f, eqB_t, eqB_f, catOk_t, leC_t] at g; exact g))
      rw [br_iff]; exact ⟨fun _ => this, fun _ _ => this⟩
    rw [br_iff]
    refine ⟨fun hmo => ?_, fun hmo _ => no (.inr hmo)⟩
    simp only [br_iff, need_iff, andB_t, andB_f, orB_t, orB_f, notB_t, notB_f, leI_t, leI_f, ltI_t, ltI_f, eqI_t, eqI_f, leN_t, leN_f, eqN_t, eqN_f, eqS_t, eqS_f, eqB_t, eqB_f, catOk_t, leC_t] at g
    obtain ⟨i, x, hi, gx, hlt, h1, hx⟩ := at_found (l := l) (id := id) (by omega)
    have e2 := @e _ (closeF_at hi gx hmo)
    rw [hi]
    simp only [leN_succ, eqN_self, leI_self, br_ff, br_tt, need_tt, andB_tt, List.drop_zero, List.nil_append, List.append_nil, Nat.zero_add, Nat.add_zero, Nat.sub_zero, List.take_length, Int.ofNat_eq_natCast, Int.toNat_natCast, Int.toNat_zero, pipeV_len, pipeV_lenL, pipeV_head, pipeV_all, pipeV_all1]
    have hin : andB (leI 0 (i : Int)) (ltI (i : Int) (l.length : Int)) = true := by simp only [br_iff, need_iff, andB_t, andB_f, orB_t, orB_f, notB_t, notB_f, leI_t, leI_f, ltI_t, ltI_f, eqI_t, eqI_f, leN_t, leN_f, eqN_t, eqN_f, eqS_t, eqS_f, eqB_t, eqB_f, catOk_t, leC_t]; omega
    have hok : okRow (pipeV l) i 9 = true := pipeV_ok hlt
    have hk := mod2 (id := id)
    have hk2 : andB (leI 0 (modI id 2)) (ltI (modI id 2) 2) = true := by simp only [br_iff, need_iff, andB_t, andB_f, orB_t, orB_f, notB_t, notB_f, leI_t, leI_f, ltI_t, ltI_f, eqI_t, eqI_f, leN_t, leN_f, eqN_t, eqN_f, eqS_t, eqS_f, eqB_t, eqB_f, catOk_t, leC_t]; omega
    have b1 := end_ok ho gx (modI id 2)
    have b2 := rdF_r (modI m 16)
    have b3 := wrF_r (modI m 16)
    rw [need_iff, need_iff, need_iff]
    refine ⟨hin, hok, hk2, _, part_rd gx hk, _, part_wr gx hk, _, put_rd gx hk _, ?_⟩
    rw [subI_i64 (by omega) (by omega), subI_i64 (by omega) (by omega)]
    have g1 : (l.set i (withE x (modI id 2) { endOf x (modI id 2) with readers := maxI ((endOf x (modI id 2)).readers - rdF (modI m 16)) 0 }))[i]? = some (withE x (modI id 2) { endOf x (modI id 2) with readers := maxI ((endOf x (modI id 2)).readers - rdF (modI m 16)) 0 }) := by
      rw [List.getElem?_set]; simp [hlt]
    refine ⟨_, put_wr g1 hk _, ?_⟩
    rw [endOf_with _ hk, with_with _ hk, List.set_set]
    have hy : (l.set i (closeE x id m))[i]? = some (closeE x id m) := by rw [List.getElem?_set]; simp [hlt]
    have hln : (l.set i (closeE x id m)).length = l.length := by simp
    rw [need_iff, need_iff]
    refine ⟨hin, pipeV_ok (l := l.set i (closeE x id m)) (i := i) (by rw [hln]; exact hlt), ?_⟩
    rw [show withE x (modI id 2) _ = closeE x id m from rfl, pipeV_part hy]
    repeat apply Exists.intro
    refine ⟨rfl, ?_⟩
    refine ⟨closeE x id m, rfl, ?_⟩
    rw [br_iff]
    refine ⟨fun q => ?_, fun q => ?_⟩
    · rw [if_pos q] at e2
      refine ⟨_, i, rfl, by rw [hln], by rw [hln], rfl, by rw [addI_i64 (by omega) (by omega)], by rw [hln]; exact hlt, by rw [hln]; omega, fun ys => ?_⟩
      have he : (l.set i (closeE x id m)).eraseIdx i = l.eraseIdx i := List.eraseIdx_set_eq
      rw [he, hln]
      rw [show List.take (l.length - 1) (pipeV (l.eraseIdx i) ++ ys) = pipeV (l.eraseIdx i) from List.take_left' (by rw [pipeV_len, List.length_eraseIdx_of_lt hlt])]
      exact e2
    · rw [if_neg (by simp [q])] at e2
      rw [pset_all]
      exact e2
  · exact h.elim
theorem erase_snoc {q : List Pipe} {i j : Nat} {f : Pipe} (h : q[j]? = some f) (hij : j ≠ i) : (q.take (j + 1)).eraseIdx i = (q.take j).eraseIdx i ++ [f] := by
  obtain ⟨h1, rfl⟩ := List.getElem?_eq_some_iff.1 h
  have hl : (q.take j).length = j := by rw [List.length_take]; omega
  rw [List.take_succ_eq_append_getElem h1]
  rcases Nat.lt_or_ge i j with h2 | h2
  · rw [List.eraseIdx_append_of_lt_length (by omega)]
  · rw [List.eraseIdx_append_of_length_le (by omega), hl]
    obtain ⟨d, hd⟩ : ∃ d, i - j = d + 1 := ⟨i - j - 1, by omega⟩
    rw [hd, List.eraseIdx_of_length_le (l := q.take j) (by omega)]
    rfl
theorem erase_at {q : List Pipe} {i : Nat} {f : Pipe} (h : q[i]? = some f) : (q.take (i + 1)).eraseIdx i = (q.take i).eraseIdx i := by
  obtain ⟨h1, rfl⟩ := List.getElem?_eq_some_iff.1 h
  have hl : (q.take i).length = i := by rw [List.length_take]; omega
  rw [List.take_succ_eq_append_getElem h1, List.eraseIdx_append_of_length_le (by omega), hl, List.eraseIdx_of_length_le (l := q.take i) (by omega)]
  simp
def rcI (q : List Pipe) (i : Nat) (x : rcX) (m : Nat) : Prop := ∃ j : Nat, x = ⟨pipeV ((q.take j).eraseIdx i), ((q.take j).eraseIdx i).length, ((q.take j).eraseIdx i).length, (j : Int)⟩ ∧ j + m = q.length
theorem rcs_con {n : Nat} (hn : 5 ≤ n) : ConOk (evalF Tryd.prog cfgN n) 35 closeCon := by
  intro vs bs K h
  unfold closeCon at h
  split at h
  · rename_i nx xs id m
    obtain ⟨l, rfl, ho, hid, hm, hK⟩ := h
    have hsz := ho.1
    refine run_of (lp := lpOf [(14, rcL fun _ _ x m' => rcI (l.set (atF l id).toNat (closeE (l.getD (atF l id).toNat default) id m)) (atF l id).toNat x m')]) (by omega) (ct := ctOf [(43, atCon), (45, baseCon), (46, usesCon), (47, putCon), (28, finRCon)])
      (fun k hk => ctOf_ok (ctOf_cons (at_con (by omega)) (ctOf_cons (rbase_con (by omega)) (ctOf_cons (ruses_con (by omega)) (ctOf_cons (put_con (by omega)) (ctOf_cons (finr_con (by omega)) (ctOf_nil _))))))) ?_
    rw [rcs_vc]
    have e : ∀ {r}, closeF l id m = r → K (.agg [.int .i64 nx, .lst (pipeV r)]) [] := fun h => by subst h; exact hK
    refine ⟨l, rfl, by omega, hid, hm, ?_⟩
    have no : (atF l id < 0 ∨ modeOk m = false) → K (.agg [.int .i64 nx, .lst (pipeV l)]) [] := fun h => e (r := l) (by unfold closeF; rw [if_pos h])
    rw [br_iff]
    refine ⟨fun hmo => ?_, fun hmo _ => by rw [br_iff]; exact ⟨fun _ => no (.inr hmo), fun _ => no (.inr hmo)⟩⟩
    rw [br_iff]
    refine ⟨fun g => no (.inl (by simp only [br_iff, need_iff, andB_t, andB_f, orB_t, orB_f, notB_t, notB_f, leI_t, leI_f, ltI_t, ltI_f, eqI_t, eqI_f, leN_t, leN_f, eqN_t, eqN_f, eqS_t, eqS_f, eqB_t, eqB_f, catOk_t, leC_t] at g; exact g)), fun g => ?_⟩
    simp only [br_iff, need_iff, andB_t, andB_f, orB_t, orB_f, notB_t, notB_f, leI_t, leI_f, ltI_t, ltI_f, eqI_t, eqI_f, leN_t, leN_f, eqN_t, eqN_f, eqS_t, eqS_f, eqB_t, eqB_f, catOk_t, leC_t] at g
    obtain ⟨i, x, hi, gx, hlt, h1, hx⟩ := at_found (l := l) (id := id) (by omega)
    have e2 := @e _ (closeF_at hi gx hmo)
    have hmod : id.tmod 2 = modI id 2 := tmod_pos (by omega)
    have hgd : l.getD i default = x := by simp [List.getD, gx]
    rw [hi, hmod]
    simp only [Int.toNat_natCast]
    rw [hgd]
    have hin : andB (leI 0 (i : Int)) (ltI (i : Int) (l.length : Int)) = true := by simp only [br_iff, need_iff, andB_t, andB_f, orB_t, orB_f, notB_t, notB_f, leI_t, leI_f, ltI_t, ltI_f, eqI_t, eqI_f, leN_t, leN_f, eqN_t, eqN_f, eqS_t, eqS_f, eqB_t, eqB_f, catOk_t, leC_t]; omega
    have hok : okRow (pipeV l) i 9 = true := pipeV_ok hlt
    have hk := mod2 (id := id)
    have hk2 : andB (leI 0 (modI id 2)) (ltI (modI id 2) 2) = true := by simp only [br_iff, need_iff, andB_t, andB_f, orB_t, orB_f, notB_t, notB_f, leI_t, leI_f, ltI_t, ltI_f, eqI_t, eqI_f, leN_t, leN_f, eqN_t, eqN_f, eqS_t, eqS_f, eqB_t, eqB_f, catOk_t, leC_t]; omega
    have b1 := end_ok ho gx (modI id 2)
    have b2 := rdF_r (modI m 16)
    have b3 := wrF_r (modI m 16)
    rw [pipeV_lenL]
    rw [need_iff, need_iff, need_iff]
    refine ⟨hin, hok, hk2, ?_⟩
    rw [pipeV_row gx, sub_end hk]
    repeat apply Exists.intro
    refine ⟨rfl, ?_⟩
    rw [subI_i64 (by omega) (by omega), subI_i64 (by omega) (by omega)]
    refine ⟨l, { endOf x (modI id 2) with readers := maxI ((endOf x (modI id 2)).readers - rdF (modI m 16)) 0, writers := maxI ((endOf x (modI id 2)).writers - wrF (modI m 16)) 0 }, i, x, rfl, rfl, by omega, rfl, gx, ?_⟩
    rw [show withE x (modI id 2) _ = closeE x id m from rfl]
    have hy : (l.set i (closeE x id m))[i]? = some (closeE x id m) := by rw [List.getElem?_set]; simp [hlt]
    have hln : (l.set i (closeE x id m)).length = l.length := by simp
    have he : (l.set i (closeE x id m)).eraseIdx i = l.eraseIdx i := List.eraseIdx_set_eq
    generalize hq : l.set i (closeE x id m) = q at *
    obtain ⟨s0, s1⟩ := okL_get ho gx
    obtain ⟨t0, t1⟩ := close_sound (id := id) (m := m) s0 s1
    rw [pipeV_lenL, hln]
    rw [need_iff, need_iff]
    refine ⟨hin, pipeV_ok (by omega), ?_⟩
    rw [pipeV_row hy]
    repeat apply Exists.intro
    refine ⟨rfl, closeE x id m, rfl, ?_⟩
    rw [finR_eq t0 t1]
    rw [br_iff]
    refine ⟨fun q2 => ?_, fun q2 => ?_⟩
    · rw [if_neg (by simp only [br_iff, need_iff, andB_t, andB_f, orB_t, orB_f, notB_t, notB_f, leI_t, leI_f, ltI_t, ltI_f, eqI_t, eqI_f, leN_t, leN_f, eqN_t, eqN_f, eqS_t, eqS_f, eqB_t, eqB_f, catOk_t, leC_t] at q2; simp [q2])] at e2
      exact e2
    rw [if_pos (by simp only [br_iff, need_iff, andB_t, andB_f, orB_t, orB_f, notB_t, notB_f, leI_t, leI_f, ltI_t, ltI_f, eqI_t, eqI_f, leN_t, leN_f, eqN_t, eqN_f, eqS_t, eqS_f, eqB_t, eqB_f, catOk_t, leC_t] at q2; exact q2)] at e2
    refine ⟨⟨q.length, by omega, 0, rfl, by omega⟩, ?_⟩
    rintro _ m' ⟨j, rfl, hj⟩
    dsimp only
    have hel : ((q.take j).eraseIdx i).length ≤ j := Nat.le_trans (List.length_eraseIdx_le ..) (by rw [List.length_take]; omega)
    rw [br_iff]
    refine ⟨fun hlt2 => ?_, fun hge => ?_⟩
    · have hlt2 : j < q.length := by simp only [br_iff, need_iff, andB_t, andB_f, orB_t, orB_f, notB_t, notB_f, leI_t, leI_f, ltI_t, ltI_f, eqI_t, eqI_f, leN_t, leN_f, eqN_t, eqN_f, eqS_t, eqS_f, eqB_t, eqB_f, catOk_t, leC_t] at hlt2; omega
      rw [br_iff]
      refine ⟨fun q3 => ?_, fun q3 => ?_⟩
      · have hji : j ≠ i := by simp only [br_iff, need_iff, andB_t, andB_f, orB_t, orB_f, notB_t, notB_f, leI_t, leI_f, ltI_t, ltI_f, eqI_t, eqI_f, leN_t, leN_f, eqN_t, eqN_f, eqS_t, eqS_f, eqB_t, eqB_f, catOk_t, leC_t] at q3; omega
        have gf : q[j]? = some q[j] := List.getElem?_eq_getElem hlt2
        generalize q[j] = f at gf
        have rf := pipeV_row gf
        have kf : okRow (pipeV q) (Int.toNat (j : Int)) 9 = true := by simpa using pipeV_ok (l := q) (i := j) hlt2
        have nf : andB (leI 0 (j : Int)) (ltI (j : Int) (q.length : Int)) = true := by simp only [br_iff, need_iff, andB_t, andB_f, orB_t, orB_f, notB_t, notB_f, leI_t, leI_f, ltI_t, ltI_f, eqI_t, eqI_f, leN_t, leN_f, eqN_t, eqN_f, eqS_t, eqS_f, eqB_t, eqB_f, catOk_t, leC_t]; omega
        rw [← hln]
        rw [need_iff, need_iff]
        refine ⟨nf, kf, ?_⟩
        try rw [rf]
        repeat apply Exists.intro
        refine ⟨rfl, ?_⟩
        simp only [leN_succ, eqN_self, leI_self, br_ff, br_tt, need_tt, andB_tt, List.drop_zero, List.nil_append, List.append_nil, Nat.zero_add, Nat.add_zero, Nat.sub_zero, List.take_length, Int.ofNat_eq_natCast, Int.toNat_natCast, Int.toNat_zero, pipeV_len, pipeV_lenL, pipeV_head, pipeV_all, pipeV_all1]
        rw [need_iff]; refine ⟨by simp only [br_iff, need_iff, andB_t, andB_f, orB_t, orB_f, notB_t, notB_f, leI_t, leI_f, ltI_t, ltI_f, eqI_t, eqI_f, leN_t, leN_f, eqN_t, eqN_f, eqS_t, eqS_f, eqB_t, eqB_f, catOk_t, leC_t]; omega, by trivial, m' - 1, by omega, j + 1, ?_, by omega⟩
        rw [erase_snoc gf hji, addI_i64 (by omega) (by omega), ← pipeV_add]
        simp [Pipe.v]
      · have hji : j = i := by simp only [br_iff, need_iff, andB_t, andB_f, orB_t, orB_f, notB_t, notB_f, leI_t, leI_f, ltI_t, ltI_f, eqI_t, eqI_f, leN_t, leN_f, eqN_t, eqN_f, eqS_t, eqS_f, eqB_t, eqB_f, catOk_t, leC_t] at q3; omega
        subst hji
        refine ⟨rfl, m' - 1, by omega, j + 1, ?_, by omega⟩
        rw [erase_at hy, addI_i64 (by omega) (by omega)]; rfl
    · have : j = q.length := by simp only [br_iff, need_iff, andB_t, andB_f, orB_t, orB_f, notB_t, notB_f, leI_t, leI_f, ltI_t, ltI_f, eqI_t, eqI_f, leN_t, leN_f, eqN_t, eqN_f, eqS_t, eqS_f, eqB_t, eqB_f, catOk_t, leC_t] at hge; omega
      subst this
      rw [List.take_length] at *
      rw [List.drop_zero, pipeV_all, he]
      exact e2
  · exact h.elim
noncomputable def eqPs (a b : Int × List Pipe) : Bool := @decide (nextF a.1 a.2 = nextF b.1 b.2 ∧ a.2 = b.2) (Classical.propDecidable _)
theorem eqPs_t {a b : Int × List Pipe} : eqPs a b = true ↔ nextF a.1 a.2 = nextF b.1 b.2 ∧ a.2 = b.2 := by simp [eqPs]
theorem eqPs_no {a b : Int × List Pipe} (h : ¬ (nextF a.1 a.2 = nextF b.1 b.2 ∧ a.2 = b.2)) : eqPs a b = false := by rw [← Bool.not_eq_true, eqPs_t]; exact h
def saCon : Con := fun vs bs K => match vs, bs with
  | [.agg [.int .i64 n1, .lst xs], .agg [.int .i64 n2, .lst ys]], [] => ∃ a b : List Pipe, xs = pipeV a ∧ ys = pipeV b ∧ a.length ≤ 100000 ∧ K (.bool (eqPs (n1, a) (n2, b))) []
  | _, _ => False
def saI (a b : List Pipe) (x : saX) (m : Nat) : Prop := ∃ j : Nat, x = ⟨(j : Int)⟩ ∧ j + m = a.length ∧ a.take j = b.take j
theorem take_eq_succ {α : Type} {a b : List α} {j : Nat} {f : α} (ha : a[j]? = some f) (hb : b[j]? = some f) (h : a.take j = b.take j) : a.take (j + 1) = b.take (j + 1) := by
  obtain ⟨h1, e1⟩ := List.getElem?_eq_some_iff.1 ha
  obtain ⟨h2, e2⟩ := List.getElem?_eq_some_iff.1 hb
  rw [List.take_succ_eq_append_getElem h1, List.take_succ_eq_append_getElem h2, h, e1, e2]
theorem sa_con {n : Nat} (hn : 2 ≤ n) : ConOk (evalF Tryd.prog cfgN n) 17 saCon := by
  intro vs bs K h
  unfold saCon at h
  split at h
  · rename_i n1 xs n2 ys
    obtain ⟨a, b, rfl, rfl, h1, hK⟩ := h
    refine run_of (lp := lpOf [(4, saL fun _ _ x m => saI a b x m)]) (ct := ctOf [(26, nextCon)]) (by omega) (fun k hk => ctOf_ok (ctOf_cons (next_con (by omega)) (ctOf_nil _))) ?_
    rw [sa_vc]
    refine ⟨a, rfl, b, rfl, ?_⟩
    simp only [pipeV_lenL]
    have no : ¬ (nextF n1 a = nextF n2 b ∧ a = b) → K (.bool false) [] := fun h => by rw [eqPs_no h] at hK; exact hK
    rw [br_iff]
    refine ⟨fun h => no (fun q => by simp only [br_iff, need_iff, andB_t, andB_f, orB_t, orB_f, notB_t, notB_f, leI_t, leI_f, ltI_t, ltI_f, eqI_t, eqI_f, leN_t, leN_f, eqN_t, eqN_f, eqS_t, eqS_f, eqB_t, eqB_f, catOk_t, leC_t] at h; exact h q.1), fun hnx => ?_⟩
    rw [br_iff]
    refine ⟨fun h => no (fun q => by simp only [br_iff, need_iff, andB_t, andB_f, orB_t, orB_f, notB_t, notB_f, leI_t, leI_f, ltI_t, ltI_f, eqI_t, eqI_f, leN_t, leN_f, eqN_t, eqN_f, eqS_t, eqS_f, eqB_t, eqB_f, catOk_t, leC_t] at h; rw [q.2] at h; exact h rfl), fun h => ?_⟩
    have hl : a.length = b.length := by simp only [br_iff, need_iff, andB_t, andB_f, orB_t, orB_f, notB_t, notB_f, leI_t, leI_f, ltI_t, ltI_f, eqI_t, eqI_f, leN_t, leN_f, eqN_t, eqN_f, eqS_t, eqS_f, eqB_t, eqB_f, catOk_t, leC_t] at h; omega
    refine ⟨⟨a.length, by omega, 0, rfl, by omega, rfl⟩, ?_⟩
    rintro _ m ⟨j, rfl, hj, hp⟩
    dsimp only
    rw [br_iff]
    refine ⟨fun hlt => ?_, fun hge => ?_⟩
    · have hlt : j < a.length := by simp only [br_iff, need_iff, andB_t, andB_f, orB_t, orB_f, notB_t, notB_f, leI_t, leI_f, ltI_t, ltI_f, eqI_t, eqI_f, leN_t, leN_f, eqN_t, eqN_f, eqS_t, eqS_f, eqB_t, eqB_f, catOk_t, leC_t] at hlt; omega
      have hlt2 : j < b.length := by omega
      have gf : a[j]? = some a[j] := List.getElem?_eq_getElem hlt
      generalize a[j] = f at gf
      have rf := pipeV_row gf
      have kf : okRow (pipeV a) (Int.toNat (j : Int)) 9 = true := by simpa using pipeV_ok (l := a) (i := j) hlt
      have nf : andB (leI 0 (j : Int)) (ltI (j : Int) (a.length : Int)) = true := by simp only [br_iff, need_iff, andB_t, andB_f, orB_t, orB_f, notB_t, notB_f, leI_t, leI_f, ltI_t, ltI_f, eqI_t, eqI_f, leN_t, leN_f, eqN_t, eqN_f, eqS_t, eqS_f, eqB_t, eqB_f, catOk_t, leC_t]; omega
      have gg : b[j]? = some b[j] := List.getElem?_eq_getElem hlt2
      generalize b[j] = g at gg
      have rg := pipeV_row gg
      have kg : okRow (pipeV b) (Int.toNat (j : Int)) 9 = true := by simpa using pipeV_ok (l := b) (i := j) hlt2
      have ng : andB (leI 0 (j : Int)) (ltI (j : Int) (b.length : Int)) = true := by simp only [br_iff, need_iff, andB_t, andB_f, orB_t, orB_f, notB_t, notB_f, leI_t, leI_f, ltI_t, ltI_f, eqI_t, eqI_f, leN_t, leN_f, eqN_t, eqN_f, eqS_t, eqS_f, eqB_t, eqB_f, catOk_t, leC_t]; omega
      rw [need_iff, need_iff]
      refine ⟨nf, kf, ?_⟩
      try rw [rf]
      repeat apply Exists.intro
      refine ⟨rfl, ?_⟩
      rw [need_iff, need_iff]
      refine ⟨ng, kg, ?_⟩
      try rw [rg]
      repeat apply Exists.intro
      refine ⟨rfl, ?_⟩
      rw [br_iff]
      refine ⟨fun q => no fun q2 => ?_, fun q => ⟨by trivial, m - 1, by omega, j + 1, by rw [addI_i64 (by omega) (by omega)]; rfl, by omega, ?_⟩⟩
      · obtain ⟨_, rfl⟩ := q2
        obtain rfl := Option.some.inj (gf.symm.trans gg)
        simp [strEq] at q
      · have : f = g := by
          simp [strEq] at q
          rw [Pipe.eqv, End.eqv, End.eqv]
          simp [q]
        subst this
        exact take_eq_succ gf gg hp
    · have : j = a.length := by simp only [br_iff, need_iff, andB_t, andB_f, orB_t, orB_f, notB_t, notB_f, leI_t, leI_f, ltI_t, ltI_f, eqI_t, eqI_f, leN_t, leN_f, eqN_t, eqN_f, eqS_t, eqS_f, eqB_t, eqB_f, catOk_t, leC_t] at hge; omega
      subst this
      rw [List.take_length, hl, List.take_length] at hp
      rw [eqPs_t.2 ⟨by simp only [br_iff, need_iff, andB_t, andB_f, orB_t, orB_f, notB_t, notB_f, leI_t, leI_f, ltI_t, ltI_f, eqI_t, eqI_f, leN_t, leN_f, eqN_t, eqN_f, eqS_t, eqS_f, eqB_t, eqB_f, catOk_t, leC_t] at hnx; exact hnx, hp⟩] at hK
      exact hK
  · exact h.elim
end Go.Proofs.YtjplfafojmkpbaaDoor
