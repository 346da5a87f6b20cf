/- Pipes: one step, its condition. -/
import Derived.Test.YtjplfafojmkpbaaDoorPipMore
namespace Go.Proofs.YtjplfafojmkpbaaDoor
open Go.RowKit
set_option maxRecDepth 100000
set_option linter.unusedVariables false
set_option linter.unusedSimpArgs false
def okCon : Con := fun vs bs K => match vs, bs with
  | [], [] => K (.bool true) []
  | _, _ => False

def smallCon : Con := fun vs bs K => match vs, bs with
  | [.agg [.int .i64 n, .lst xs]], [] => K (.bool (leI (lenL xs) 80)) []
  | _, _ => False

def st_vc_1 (n : Int) (xs : List (List V)) (o : Op) (K : V → List Bk → Prop) (l4 : List Pipe) : Prop :=
  (
                      ∃ a8 : List Pipe, ∃ b9 : List Pipe, ((pipeV (writeF l4 o.id o.data).1 : List (List V)) = pipeV a8) ∧ (
                      ((xs : List (List V)) = pipeV b9) ∧ (
                      (a8.length ≤ 100000) ∧ (
                      K (V.tup [V.agg [V.int IntKind.i64 n, V.lst (pipeV (writeF l4 o.id o.data).1)], V.bool (eqPs (n, a8) (n, b9))]) []))))
def st_vc_2 (n : Int) (xs : List (List V)) (o : Op) (K : V → List Bk → Prop) (l4 : List Pipe) : Prop :=
  (
                    ∃ a8 : List Pipe, ∃ b9 : List Pipe, ((pipeV (readF l4 o.id o.mode).1 : List (List V)) = pipeV a8) ∧ (
                    ((xs : List (List V)) = pipeV b9) ∧ (
                    (a8.length ≤ 100000) ∧ (
                    K (V.tup [V.agg [V.int IntKind.i64 n, V.lst (pipeV (readF l4 o.id o.mode).1)], V.bool (eqPs (n, a8) (n, b9))]) []))))
theorem st_vc (n : Int) (xs : List (List V)) (o : Op) (K : V → List Bk → Prop) : vcF Tryd.prog cfgN (ctOf [(13, makeCon), (31, makeCon), (14, openCon), (32, openCon), (16, readCon), (33, readCon), (15, writeCon), (34, writeCon), (18, closeCon), (35, closeCon), (17, saCon)]) (lpOf []) 12 [.agg [.int .i64 n, .lst xs], .agg o.v] [] K = (
  br (eqI o.1 0) (
    ∃ l4 : List Pipe, ((xs : List (List V)) = pipeV l4) ∧ (
    (l4.length ≤ 1000) ∧ (
    (0 ≤ n) ∧ (
    (((n : Int) = 0) → (
    (l4 : List Pipe) = [])) ∧ (
    ∃ l5 : List Pipe, ((xs : List (List V)) = pipeV l5) ∧ (
    (l5.length ≤ 1000) ∧ (
    (0 ≤ n) ∧ (
    (((n : Int) = 0) → (
    (l5 : List Pipe) = [])) ∧ (
    ∃ a6 : List Pipe, ∃ b7 : List Pipe, ((pipeV (makeF n l4).fst.2 : List (List V)) = pipeV a6) ∧ (
    ((pipeV (makeF n l5).fst.2 : List (List V)) = pipeV b7) ∧ (
    (a6.length ≤ 100000) ∧ (
    br (eqPs ((makeF n l4).fst.1, a6) ((makeF n l5).fst.1, b7)) (
      br (eqI (makeF n l4).snd.1 (makeF n l5).snd.1) (
        K (V.tup [V.agg [V.int IntKind.i64 (makeF n l4).fst.1, V.lst (pipeV (makeF n l4).fst.2)], V.bool (eqI (makeF n l4).snd.2 (makeF n l5).snd.2)]) []) (
        K (V.tup [V.agg [V.int IntKind.i64 (makeF n l4).fst.1, V.lst (pipeV (makeF n l4).fst.2)], V.bool false]) [])) (
      K (V.tup [V.agg [V.int IntKind.i64 (makeF n l4).fst.1, V.lst (pipeV (makeF n l4).fst.2)], V.bool false]) []))))))))))))) (
    br (eqI o.1 1) (
      ∃ l4 : List Pipe, ((xs : List (List V)) = pipeV l4) ∧ (
      (okL l4) ∧ (
      (o.2 ≤ 9223372036854775807) ∧ (
      (o.3 ≤ 9223372036854775807) ∧ (
      ∃ l5 : List Pipe, ((xs : List (List V)) = pipeV l5) ∧ (
      (okL l5) ∧ (
      (o.2 ≤ 9223372036854775807) ∧ (
      (o.3 ≤ 9223372036854775807) ∧ (
      ∃ a6 : List Pipe, ∃ b7 : List Pipe, ((pipeV (openF l4 o.id o.mode).1 : List (List V)) = pipeV a6) ∧ (
      ((pipeV (openF l5 o.id o.mode).1 : List (List V)) = pipeV b7) ∧ (
      (a6.length ≤ 100000) ∧ (
      br (eqPs (n, a6) (n, b7)) (
        K (V.tup [V.agg [V.int IntKind.i64 n, V.lst (pipeV (openF l4 o.id o.mode).1)], V.bool (eqI (openF l4 o.id o.mode).2 (openF l5 o.id o.mode).2)]) []) (
        K (V.tup [V.agg [V.int IntKind.i64 n, V.lst (pipeV (openF l4 o.id o.mode).1)], V.bool false]) []))))))))))))) (
      br (eqI o.1 2) (
        ∃ l4 : List Pipe, ((xs : List (List V)) = pipeV l4) ∧ (
        (okL l4) ∧ (
        (o.2 ≤ 9223372036854775807) ∧ (
        (o.3 ≤ 9223372036854775807) ∧ (
        ∃ l5 : List Pipe, ((xs : List (List V)) = pipeV l5) ∧ (
        (okL l5) ∧ (
        (o.2 ≤ 9223372036854775807) ∧ (
        (o.3 ≤ 9223372036854775807) ∧ (
        ∃ a6 : List Pipe, ∃ b7 : List Pipe, ((pipeV (readF l4 o.id o.mode).1 : List (List V)) = pipeV a6) ∧ (
        ((pipeV (readF l5 o.id o.mode).1 : List (List V)) = pipeV b7) ∧ (
        (a6.length ≤ 100000) ∧ (
        br (eqPs (n, a6) (n, b7)) (
          br (eqS (readF l4 o.id o.mode).snd.1 (readF l5 o.id o.mode).snd.1) (
            br (eqB (readF l4 o.id o.mode).snd.snd.1 (readF l5 o.id o.mode).snd.snd.1) (
              br (eqI (readF l4 o.id o.mode).snd.snd.2 (readF l5 o.id o.mode).snd.snd.2) (
                br (notB (readF l4 o.id o.mode).snd.snd.1) (
                  br (eqI (readF l4 o.id o.mode).snd.snd.2 0) (
                    K (V.tup [V.agg [V.int IntKind.i64 n, V.lst (pipeV (readF l4 o.id o.mode).1)], V.bool true]) []) (st_vc_2 n xs o K l4)) (st_vc_2 n xs o K l4)) (
                K (V.tup [V.agg [V.int IntKind.i64 n, V.lst (pipeV (readF l4 o.id o.mode).1)], V.bool false]) [])) (
              K (V.tup [V.agg [V.int IntKind.i64 n, V.lst (pipeV (readF l4 o.id o.mode).1)], V.bool false]) [])) (
            K (V.tup [V.agg [V.int IntKind.i64 n, V.lst (pipeV (readF l4 o.id o.mode).1)], V.bool false]) [])) (
          K (V.tup [V.agg [V.int IntKind.i64 n, V.lst (pipeV (readF l4 o.id o.mode).1)], V.bool false]) []))))))))))))) (
        br (eqI o.1 3) (
          ∃ l4 : List Pipe, ((xs : List (List V)) = pipeV l4) ∧ (
          (okL l4) ∧ (
          (o.2 ≤ 9223372036854775807) ∧ (
          (o.4.length ≤ 100000) ∧ (
          ∃ l5 : List Pipe, ((xs : List (List V)) = pipeV l5) ∧ (
          (okL l5) ∧ (
          (o.2 ≤ 9223372036854775807) ∧ (
          (o.4.length ≤ 100000) ∧ (
          ∃ a6 : List Pipe, ∃ b7 : List Pipe, ((pipeV (writeF l4 o.id o.data).1 : List (List V)) = pipeV a6) ∧ (
          ((pipeV (writeF l5 o.id o.data).1 : List (List V)) = pipeV b7) ∧ (
          (a6.length ≤ 100000) ∧ (
          br (eqPs (n, a6) (n, b7)) (
            br (eqI (writeF l4 o.id o.data).snd.1 (writeF l5 o.id o.data).snd.1) (
              br (eqB (writeF l4 o.id o.data).snd.snd.1 (writeF l5 o.id o.data).snd.snd.1) (
                br (eqI (writeF l4 o.id o.data).snd.snd.2 (writeF l5 o.id o.data).snd.snd.2) (
                  br (notB (writeF l4 o.id o.data).snd.snd.1) (
                    br (eqI (writeF l4 o.id o.data).snd.snd.2 0) (
                      K (V.tup [V.agg [V.int IntKind.i64 n, V.lst (pipeV (writeF l4 o.id o.data).1)], V.bool true]) []) (st_vc_1 n xs o K l4)) (st_vc_1 n xs o K l4)) (
                  K (V.tup [V.agg [V.int IntKind.i64 n, V.lst (pipeV (writeF l4 o.id o.data).1)], V.bool false]) [])) (
                K (V.tup [V.agg [V.int IntKind.i64 n, V.lst (pipeV (writeF l4 o.id o.data).1)], V.bool false]) [])) (
              K (V.tup [V.agg [V.int IntKind.i64 n, V.lst (pipeV (writeF l4 o.id o.data).1)], V.bool false]) [])) (
            K (V.tup [V.agg [V.int IntKind.i64 n, V.lst (pipeV (writeF l4 o.id o.data).1)], V.bool false]) []))))))))))))) (
          ∃ l4 : List Pipe, ((xs : List (List V)) = pipeV l4) ∧ (
          (okL l4) ∧ (
          (o.2 ≤ 9223372036854775807) ∧ (
          (o.3 ≤ 9223372036854775807) ∧ (
          ∃ l5 : List Pipe, ((xs : List (List V)) = pipeV l5) ∧ (
          (okL l5) ∧ (
          (o.2 ≤ 9223372036854775807) ∧ (
          (o.3 ≤ 9223372036854775807) ∧ (
          ∃ a6 : List Pipe, ∃ b7 : List Pipe, ((pipeV (closeF l4 o.2 o.3) : List (List V)) = pipeV a6) ∧ (
          ((pipeV (closeF l5 o.2 o.3) : List (List V)) = pipeV b7) ∧ (
          (a6.length ≤ 100000) ∧ (
          K (V.tup [V.agg [V.int IntKind.i64 n, V.lst (pipeV (closeF l4 o.2 o.3))], V.bool (eqPs (n, a6) (n, b7))]) [])))))))))))))))) := by kernel_rfl

theorem smal_vc (n : Int) (xs : List (List V)) (K : V → List Bk → Prop) : vcF Tryd.prog cfgN (ctOf []) (lpOf []) 8 [.agg [.int .i64 n, .lst xs]] [] K = (
  K (V.bool (leI (lenL xs) 80)) []) := by kernel_rfl

end Go.Proofs.YtjplfafojmkpbaaDoor
namespace Go.Proofs.YtjplfafojmkpbaaDoor
open Go.RowKit
set_option maxRecDepth 100000
set_option linter.unusedVariables false
set_option linter.unusedSimpArgs false
def ordP (l : List Pipe) : Prop := (l.map Pipe.id).Pairwise (· < ·)
def goodL (n : Int) (l : List Pipe) : Prop := l.length ≤ 64 ∧ 1 ≤ nextF n l ∧ nextF n l ≤ 549755813888 ∧ (∀ x ∈ l, goodP n x) ∧ ordP l
theorem ordP_of {l : List Pipe} (h : ∀ (j k : Nat) x y, j = k + 1 → l[j]? = some x → l[k]? = some y → y.id < x.id) : ordP l := by
  refine List.pairwise_iff_getElem.2 fun i j hi hj hij => ?_
  simp only [List.length_map] at hi hj
  simp only [List.getElem_map]
  have main : ∀ d (i : Nat) (hi : i < l.length) (h2 : i + d + 1 < l.length), l[i].id < l[i + d + 1].id := by
    intro d
    induction d with
    | zero => intro i hi h2; exact h _ _ _ _ rfl (List.getElem?_eq_getElem h2) (List.getElem?_eq_getElem hi)
    | succ d ih =>
      intro i hi h2
      have h3 := ih i hi (by omega)
      have h4 := h _ (i + d + 1) _ _ rfl (List.getElem?_eq_getElem h2) (List.getElem?_eq_getElem (by omega))
      omega
  have := main (j - i - 1) i hi (by omega)
  simp only [show i + (j - i - 1) + 1 = j by omega] at this
  exact this
theorem rightP_good {n : Int} {l : List Pipe} : rightP n l = true ↔ goodL n l := by
  rw [rightP_iff]
  constructor
  · rintro ⟨h1, h2, h3, h4⟩
    refine ⟨h1, h2, h3, fun x hx => ?_, ordP_of fun j k x y hjk hx hy => ?_⟩
    · obtain ⟨j, hj⟩ := List.mem_iff_getElem?.1 hx
      obtain ⟨x', e1, e2, _⟩ := h4 j (List.getElem?_eq_some_iff.1 hj).1
      rw [hj] at e1; cases e1; exact e2
    · obtain ⟨x', e1, _, e3⟩ := h4 j (List.getElem?_eq_some_iff.1 hx).1
      rw [hx] at e1; cases e1
      exact e3 k y hjk hy
  · rintro ⟨h1, h2, h3, h4, h5⟩
    refine ⟨h1, h2, h3, fun j hj => ⟨l[j], List.getElem?_eq_getElem hj, h4 _ (List.getElem_mem hj), fun k y hjk hy => ?_⟩⟩
    obtain ⟨hk, rfl⟩ := List.getElem?_eq_some_iff.1 hy
    have := List.pairwise_iff_getElem.1 h5 k j (by simpa using hk) (by simpa using hj) (by omega)
    simpa using this
theorem good_ok {n : Int} {l : List Pipe} (h : goodL n l) : okL l := ⟨by have := h.1; omega, fun x hx => (h.2.2.2.1 x hx).2.2⟩
theorem good_next {n : Int} {l : List Pipe} (h : goodL n l) : 0 ≤ n ∧ (n = 0 → l = []) := by
  have h1 := h.2.1
  unfold nextF at h1
  split at h1
  · rename_i q; exact ⟨by omega, fun _ => q.2⟩
  · exact ⟨by omega, fun q => by omega⟩
theorem nextF_pos {n : Int} {l : List Pipe} (h : n ≠ 0) : nextF n l = n := by unfold nextF; rw [if_neg (fun q => h q.1)]
theorem good_set {n : Int} {l : List Pipe} (h : goodL n l) {i : Nat} {x y : Pipe} (gx : l[i]? = some x) (hy : goodP n y) (he : y.id = x.id) : goodL n (l.set i y) := by
  have hlt := (List.getElem?_eq_some_iff.1 gx).1
  have hx := h.2.2.2.1 x (List.mem_of_getElem? gx)
  have hn : n ≠ 0 := by have := hx.1; omega
  have hnx := h.2.1
  have hnx2 := h.2.2.1
  rw [nextF_pos hn] at hnx hnx2
  refine ⟨by simpa using h.1, by rw [nextF_pos hn]; exact hnx, by rw [nextF_pos hn]; exact hnx2, fun z hz => ?_, ?_⟩
  · rcases List.mem_or_eq_of_mem_set hz with hz | rfl
    · exact h.2.2.2.1 z hz
    · exact hy
  · have := h.2.2.2.2
    unfold ordP at this ⊢
    rw [List.map_set, he, set_same (by simp [gx])]
    exact this
theorem good_erase {n : Int} {l : List Pipe} (h : goodL n l) {i : Nat} (hn : n ≠ 0) : goodL n (l.eraseIdx i) := by
  have hnx := h.2.1
  have hnx2 := h.2.2.1
  rw [nextF_pos hn] at hnx hnx2
  have hs := List.eraseIdx_sublist l i
  exact ⟨Nat.le_trans hs.length_le h.1, by rw [nextF_pos hn]; exact hnx, by rw [nextF_pos hn]; exact hnx2, fun z hz => h.2.2.2.1 z (hs.subset hz), h.2.2.2.2.sublist (hs.map _)⟩
theorem make_good {n : Int} {l : List Pipe} (h : goodL n l) : goodL (makeF n l).1.1 (makeF n l).1.2 := by
  unfold makeF
  split
  · exact h
  · rename_i hg
    obtain ⟨h1, h2, h3, h4, h5⟩ := h
    have hnx : nextF (nextF n l + 1) (l ++ [⟨nextF n l, zE, zE⟩]) = nextF n l + 1 := nextF_pos (by omega)
    have hlt : ∀ x ∈ l, x.id < nextF n l := fun x hx => by
      have := (h4 x hx).1.2
      rw [nextF_pos (by have := (h4 x hx).1; omega)]; exact this
    refine ⟨by simp; omega, by simp only; rw [hnx]; omega, by simp only; rw [hnx]; omega, fun x hx => ?_, ?_⟩
    · rcases List.mem_append.1 hx with hx | hx
      · have := h4 x hx
        exact ⟨⟨this.1.1, by have := hlt x hx; simp only; omega⟩, this.2⟩
      · obtain rfl := List.mem_singleton.1 hx
        exact ⟨⟨by simp only; omega, by simp only; omega⟩, rfl, rfl, rfl⟩
    · simp only
      unfold ordP
      rw [List.map_append]
      refine List.pairwise_append.2 ⟨h5, by simp, fun a ha b hb => ?_⟩
      obtain ⟨x, hx, rfl⟩ := List.mem_map.1 ha
      simp at hb
      subst hb
      exact hlt x hx
theorem with_id (x : Pipe) (k : Int) (e : End) : (withE x k e).id = x.id := by unfold withE; split <;> rfl
theorem with_good {n : Int} {x : Pipe} (h : goodP n x) {k : Int} (hk : k = 0 ∨ k = 1) {e : End} (he : soundB e = true) (hc : finB (withE x k e) = false) : goodP n (withE x k e) := by
  refine ⟨by rw [with_id]; exact h.1, hc, ?_⟩
  rcases hk with rfl | rfl
  · exact ⟨he, h.2.2.2⟩
  · exact ⟨h.2.2.1, he⟩
theorem sound_end {x : Pipe} {n : Int} (h : goodP n x) {k : Int} (hk : k = 0 ∨ k = 1) : soundB (endOf x k) = true := by
  rcases hk with rfl | rfl
  · exact h.2.2.1
  · exact h.2.2.2
/-- Changed bytes. -/
theorem data_good {n : Int} {x : Pipe} (h : goodP n x) {k : Int} (hk : k = 0 ∨ k = 1) {d : List UInt8} (hd : d.length ≤ 8192) : goodP n (withE x k { endOf x k with data := d }) := by
  have hs := of_decide_eq_true (show decide _ = true from sound_end h hk)
  refine with_good h hk (decide_eq_true ⟨hd, hs.2⟩) ?_
  have := h.2.1
  rcases hk with rfl | rfl <;> exact this
theorem open_good {n : Int} {x y : Pipe} {id m : Int} (h : goodP n x) (hm : modeOk m = true) (h3 : modI m 16 ≠ 3) (he : openE x id m = some y) : goodP n y ∧ y.id = x.id := by
  unfold openE at he
  split at he
  · cases he
  · rename_i hg
    injection he with he
    have hk := mod2 (id := id)
    have hs := of_decide_eq_true (show decide _ = true from sound_end h hk)
    have b2 := rdF_r (modI m 16)
    have b3 := wrF_r (modI m 16)
    have hm' := of_decide_eq_true (show decide _ = true from hm)
    have hsum : 1 ≤ rdF (modI m 16) + wrF (modI m 16) := by
      unfold modI at *
      unfold rdF wrF
      split <;> split <;> omega
    rw [← he]
    refine ⟨with_good h hk (decide_eq_true ⟨hs.1, ⟨by have := hs.2.1; simp only; omega, by simp only; omega⟩, ⟨by have := hs.2.2.1; simp only; omega, by simp only; omega⟩, fun q => by cases q⟩) ?_, with_id ..⟩
    have hs1 := hs.2.1
    have hs2 := hs.2.2.1
    rw [← Bool.not_eq_true]
    intro hf
    have hf := of_decide_eq_true (show decide _ = true from hf)
    rcases hk with hk | hk
    · rw [hk] at hf hs1 hs2
      have a1 := hf.2.1
      have a2 := hf.2.2.1
      simp only [withE, endOf, if_true] at a1 a2 hs1 hs2
      omega
    · rw [hk] at hf hs1 hs2
      have a1 := hf.2.2.2.2.1
      have a2 := hf.2.2.2.2.2
      simp only [withE, endOf, show ¬ (1 : Int) = 0 by omega, if_false] at a1 a2 hs1 hs2
      omega
theorem at_get {l : List Pipe} {id : Int} {x : Pipe} (h : l[(atF l id).toNat]? = some x) (h0 : ¬ atF l id < 0) : ∃ i : Nat, atF l id = (i : Int) ∧ l[i]? = some x := ⟨(atF l id).toNat, by omega, h⟩
theorem openF_good {n : Int} {l : List Pipe} {id m : Int} (h : goodL n l) : goodL n (openF l id m).1 := by
  unfold openF
  split
  · exact h
  · split
    · exact h
    · split
      · split <;> exact h
      · rename_i h1 h2 h3
        split
        · exact h
        · rename_i h4
          split
          · exact h
          · rename_i y hy
            obtain ⟨x, hx, he⟩ := Option.bind_eq_some_iff.1 hy
            obtain ⟨g1, g2⟩ := open_good (h.2.2.2.1 x (List.mem_of_getElem? hx)) (by simpa using h2) h4 he
            exact good_set h hx g1 g2
theorem readF_good {n : Int} {l : List Pipe} {id m : Int} (h : goodL n l) : goodL n (readF l id m).1 := by
  unfold readF
  split
  · exact h
  · split
    · exact h
    · split
      · exact h
      · split
        · exact h
        · rename_i x hx
          split
          · exact h
          · have hg := h.2.2.2.1 x (List.mem_of_getElem? hx)
            have hs := of_decide_eq_true (show decide _ = true from sound_end hg (mod2 (id := id)))
            exact good_set h hx (data_good hg mod2 (by have := hs.1; rw [List.length_drop]; omega)) (with_id ..)
theorem mod2' {id : Int} : 1 - modI id 2 = 0 ∨ 1 - modI id 2 = 1 := by have := mod2 (id := id); omega
theorem writeF_good {n : Int} {l : List Pipe} {id : Int} {s : List UInt8} (h : goodL n l) : goodL n (writeF l id s).1 := by
  unfold writeF
  split
  · exact h
  · split
    · exact h
    · split
      · exact h
      · split
        · exact h
        · rename_i x hx
          split
          · exact h
          · split
            · exact h
            · have hg := h.2.2.2.1 x (List.mem_of_getElem? hx)
              exact good_set h hx (data_good hg mod2' (by rw [List.length_append]; omega)) (with_id ..)
theorem closeF_good {n : Int} {l : List Pipe} {id m : Int} (h : goodL n l) : goodL n (closeF l id m) := by
  unfold closeF
  split
  · exact h
  · split
    · exact h
    · rename_i x hx
      have hg := h.2.2.2.1 x (List.mem_of_getElem? hx)
      split
      · exact good_erase h (by have := hg.1; omega)
      · rename_i hf
        obtain ⟨c1, c2⟩ := close_sound (id := id) (m := m) hg.2.2.1 hg.2.2.2
        exact good_set h hx ⟨by unfold closeE; rw [with_id]; exact hg.1, by simpa using hf, c1, c2⟩ (with_id ..)
def stepF (n : Int) (l : List Pipe) (o : Op) : Int × List Pipe :=
  if o.kind = 0 then (makeF n l).1 else if o.kind = 1 then (n, (openF l o.id o.mode).1) else if o.kind = 2 then (n, (readF l o.id o.mode).1) else if o.kind = 3 then (n, (writeF l o.id o.data).1) else (n, closeF l o.id o.mode)
theorem stepF_good {n : Int} {l : List Pipe} (o : Op) (h : goodL n l) : goodL (stepF n l o).1 (stepF n l o).2 := by
  unfold stepF
  split
  · exact make_good h
  · split
    · exact openF_good h
    · split
      · exact readF_good h
      · split
        · exact writeF_good h
        · exact closeF_good h
theorem readF_stay (l : List Pipe) (id m : Int) (h : (readF l id m).2.2.1 = true ∨ (readF l id m).2.2.2 ≠ 0) : (readF l id m).1 = l := by
  unfold readF at h ⊢
  split
  · rfl
  · rename_i h1; rw [if_neg h1] at h
    split
    · rfl
    · rename_i h2; rw [if_neg h2] at h
      split
      · rfl
      · rename_i h3; rw [if_neg h3] at h
        split
        · rfl
        · rename_i x hx; rw [hx] at h; simp only at h
          split
          · rfl
          · rename_i h4; rw [if_neg h4] at h; simp at h
theorem writeF_stay (l : List Pipe) (id : Int) (s : List UInt8) (h : (writeF l id s).2.2.1 = true ∨ (writeF l id s).2.2.2 ≠ 0) : (writeF l id s).1 = l := by
  unfold writeF at h ⊢
  split
  · rfl
  · rename_i h1; rw [if_neg h1] at h
    split
    · rfl
    · rename_i h2; rw [if_neg h2] at h
      split
      · rfl
      · rename_i h3; rw [if_neg h3] at h
        split
        · rfl
        · rename_i x hx; rw [hx] at h; simp only at h
          split
          · rfl
          · rename_i h4; rw [if_neg h4] at h
            split
            · rfl
            · rename_i h5; rw [if_neg h5] at h; simp at h
def stepCon : Con := fun vs bs K => match vs, bs with
  | [.agg [.int .i64 n, .lst xs], .agg cs], [] => ∃ (l : List Pipe) (o : Op), xs = pipeV l ∧ cs = o.v ∧ goodL n l ∧ o.id ≤ 9223372036854775807 ∧ o.mode ≤ 9223372036854775807 ∧ o.data.length ≤ 100000 ∧
      K (.tup [.agg [.int .i64 (stepF n l o).1, .lst (pipeV (stepF n l o).2)], .bool true]) []
  | _, _ => False
theorem eqI_refl (a : Int) : eqI a a = true := by simp [eqI]
theorem eqS_refl (a : List UInt8) : eqS a a = true := by simp [eqS, strEq]
theorem eqB_refl (a : Bool) : eqB a a = true := by simp [eqB]
theorem eqPs_refl (a : Int × List Pipe) : eqPs a a = true := eqPs_t.2 ⟨rfl, rfl⟩
theorem st_con {n : Nat} (hn : 6 ≤ n) : ConOk (evalF Tryd.prog cfgN n) 12 stepCon := by
  intro vs bs K h
  unfold stepCon at h
  split at h
  · rename_i nx xs cs
    obtain ⟨l, o, rfl, rfl, hg, hid, hmd, hdt, hK⟩ := h
    refine run_of (lp := lpOf []) (by omega) (ct := ctOf [(13, makeCon), (31, makeCon), (14, openCon), (32, openCon), (16, readCon), (33, readCon), (15, writeCon), (34, writeCon), (18, closeCon), (35, closeCon), (17, saCon)])
      (fun k hk => ctOf_ok (ctOf_cons (mk_con (by omega)) (ctOf_cons (rmk_con (by omega)) (ctOf_cons (op_con (by omega)) (ctOf_cons (rop_con (by omega)) (ctOf_cons (rd_con (by omega)) (ctOf_cons (rrd_con (by omega)) (ctOf_cons (wt_con (by omega)) (ctOf_cons (rwt_con (by omega)) (ctOf_cons (cs_con (by omega)) (ctOf_cons (rcs_con (by omega)) (ctOf_cons (sa_con (by omega)) (ctOf_nil _))))))))))))) ?_
    rw [st_vc]
    have ho := good_ok hg
    obtain ⟨hn0, hne⟩ := good_next hg
    have hsz := hg.1
    have hst := (stepF_good o hg).1
    unfold stepF at hK hst
    rw [br_iff]; refine ⟨fun g => ?_, fun g => ?_⟩
    · have g : o.kind = 0 := by simp only [br_iff, need_iff, andB_t, andB_f, orB_t, orB_f, notB_t, notB_f, leI_t, leI_f, ltI_t, ltI_f, eqI_t, eqI_f, leN_t, leN_f, eqN_t, eqN_f, eqS_t, eqS_f, eqB_t, eqB_f, catOk_t, leC_t] at g; exact g
      rw [if_pos g] at hK hst
      refine ⟨l, rfl, by omega, hn0, hne, l, rfl, by omega, hn0, hne, _, _, rfl, rfl, by omega, ?_⟩
      rw [eqPs_refl, eqI_refl, eqI_refl]
      exact hK
    have g : ¬ o.kind = 0 := by simp only [br_iff, need_iff, andB_t, andB_f, orB_t, orB_f, notB_t, notB_f, leI_t, leI_f, ltI_t, ltI_f, eqI_t, eqI_f, leN_t, leN_f, eqN_t, eqN_f, eqS_t, eqS_f, eqB_t, eqB_f, catOk_t, leC_t] at g; exact g
    rw [if_neg g] at hK hst
    rw [br_iff]; refine ⟨fun g => ?_, fun g => ?_⟩
    · have g : o.kind = 1 := by simp only [br_iff, need_iff, andB_t, andB_f, orB_t, orB_f, notB_t, notB_f, leI_t, leI_f, ltI_t, ltI_f, eqI_t, eqI_f, leN_t, leN_f, eqN_t, eqN_f, eqS_t, eqS_f, eqB_t, eqB_f, catOk_t, leC_t] at g; exact g
      rw [if_pos g] at hK hst
      refine ⟨l, rfl, ho, hid, hmd, l, rfl, ho, hid, hmd, _, _, rfl, rfl, by simp only at hst; omega, ?_⟩
      rw [eqPs_refl, eqI_refl]
      exact hK
    have g : ¬ o.kind = 1 := by simp only [br_iff, need_iff, andB_t, andB_f, orB_t, orB_f, notB_t, notB_f, leI_t, leI_f, ltI_t, ltI_f, eqI_t, eqI_f, leN_t, leN_f, eqN_t, eqN_f, eqS_t, eqS_f, eqB_t, eqB_f, catOk_t, leC_t] at g; exact g
    rw [if_neg g] at hK hst
    rw [br_iff]; refine ⟨fun g => ?_, fun g => ?_⟩
    · have g : o.kind = 2 := by simp only [br_iff, need_iff, andB_t, andB_f, orB_t, orB_f, notB_t, notB_f, leI_t, leI_f, ltI_t, ltI_f, eqI_t, eqI_f, leN_t, leN_f, eqN_t, eqN_f, eqS_t, eqS_f, eqB_t, eqB_f, catOk_t, leC_t] at g; exact g
      rw [if_pos g] at hK hst
      refine ⟨l, rfl, ho, hid, hmd, l, rfl, ho, hid, hmd, _, _, rfl, rfl, by simp only at hst; omega, ?_⟩
      rw [eqPs_refl, eqS_refl, eqB_refl, eqI_refl]
      simp only [br_tt]
      have tl : ((readF l o.id o.mode).2.2.1 = true ∨ (readF l o.id o.mode).2.2.2 ≠ 0) → st_vc_2 nx (pipeV l) o K l := fun q => by
        refine ⟨_, _, rfl, rfl, by simp only at hst; omega, ?_⟩
        rw [readF_stay _ _ _ q, eqPs_refl]
        simp only [readF_stay _ _ _ q] at hK
        exact hK
      rw [br_iff]; refine ⟨fun q => ?_, fun q => tl (.inl (by simp only [br_iff, need_iff, andB_t, andB_f, orB_t, orB_f, notB_t, notB_f, leI_t, leI_f, ltI_t, ltI_f, eqI_t, eqI_f, leN_t, leN_f, eqN_t, eqN_f, eqS_t, eqS_f, eqB_t, eqB_f, catOk_t, leC_t] at q; exact q))⟩
      rw [br_iff]; exact ⟨fun _ => hK, fun q => tl (.inr (by simp only [br_iff, need_iff, andB_t, andB_f, orB_t, orB_f, notB_t, notB_f, leI_t, leI_f, ltI_t, ltI_f, eqI_t, eqI_f, leN_t, leN_f, eqN_t, eqN_f, eqS_t, eqS_f, eqB_t, eqB_f, catOk_t, leC_t] at q; exact q))⟩
    have g : ¬ o.kind = 2 := by simp only [br_iff, need_iff, andB_t, andB_f, orB_t, orB_f, notB_t, notB_f, leI_t, leI_f, ltI_t, ltI_f, eqI_t, eqI_f, leN_t, leN_f, eqN_t, eqN_f, eqS_t, eqS_f, eqB_t, eqB_f, catOk_t, leC_t] at g; exact g
    rw [if_neg g] at hK hst
    rw [br_iff]; refine ⟨fun g => ?_, fun g => ?_⟩
    · have g : o.kind = 3 := by simp only [br_iff, need_iff, andB_t, andB_f, orB_t, orB_f, notB_t, notB_f, leI_t, leI_f, ltI_t, ltI_f, eqI_t, eqI_f, leN_t, leN_f, eqN_t, eqN_f, eqS_t, eqS_f, eqB_t, eqB_f, catOk_t, leC_t] at g; exact g
      rw [if_pos g] at hK hst
      refine ⟨l, rfl, ho, hid, hdt, l, rfl, ho, hid, hdt, _, _, rfl, rfl, by simp only at hst; omega, ?_⟩
      rw [eqPs_refl, eqI_refl, eqB_refl, eqI_refl]
      simp only [br_tt]
      have tl : ((writeF l o.id o.data).2.2.1 = true ∨ (writeF l o.id o.data).2.2.2 ≠ 0) → st_vc_1 nx (pipeV l) o K l := fun q => by
        refine ⟨_, _, rfl, rfl, by simp only at hst; omega, ?_⟩
        rw [writeF_stay _ _ _ q, eqPs_refl]
        simp only [writeF_stay _ _ _ q] at hK
        exact hK
      rw [br_iff]; refine ⟨fun q => ?_, fun q => tl (.inl (by simp only [br_iff, need_iff, andB_t, andB_f, orB_t, orB_f, notB_t, notB_f, leI_t, leI_f, ltI_t, ltI_f, eqI_t, eqI_f, leN_t, leN_f, eqN_t, eqN_f, eqS_t, eqS_f, eqB_t, eqB_f, catOk_t, leC_t] at q; exact q))⟩
      rw [br_iff]; exact ⟨fun _ => hK, fun q => tl (.inr (by simp only [br_iff, need_iff, andB_t, andB_f, orB_t, orB_f, notB_t, notB_f, leI_t, leI_f, ltI_t, ltI_f, eqI_t, eqI_f, leN_t, leN_f, eqN_t, eqN_f, eqS_t, eqS_f, eqB_t, eqB_f, catOk_t, leC_t] at q; exact q))⟩
    have g : ¬ o.kind = 3 := by simp only [br_iff, need_iff, andB_t, andB_f, orB_t, orB_f, notB_t, notB_f, leI_t, leI_f, ltI_t, ltI_f, eqI_t, eqI_f, leN_t, leN_f, eqN_t, eqN_f, eqS_t, eqS_f, eqB_t, eqB_f, catOk_t, leC_t] at g; exact g
    rw [if_neg g] at hK hst
    refine ⟨l, rfl, ho, hid, hmd, l, rfl, ho, hid, hmd, _, _, rfl, rfl, by simp only at hst; omega, ?_⟩
    rw [eqPs_refl]
    exact hK
  · exact h.elim
end Go.Proofs.YtjplfafojmkpbaaDoor
namespace Go.Proofs.YtjplfafojmkpbaaDoor
open Go.RowKit
set_option maxRecDepth 100000
set_option linter.unusedVariables false
set_option linter.unusedSimpArgs false
structure pkC where
  os : List (List V)
  cnt : Int
structure pkX where
  n : Int
  xs : List (List V)
  i : Int
def pkSt (c : pkC) (x : pkX) : St := ⟨[(3, .ptr 0 0 0), (12, .lst c.os), (13, .int .i64 c.cnt), (14, .int .i64 x.i)], [(0, ⟨true, true, true, [[.int .i64 x.n, .lst x.xs]]⟩)]⟩
def pkUn (s : St) : Option (pkC × pkX) :=
  match s with
  | ⟨[(q0, .ptr q1 q2 q3), (q4, .lst os), (q5, .int .i64 cnt), (q6, .int .i64 i)], [(q7, ⟨true, true, true, [[.int .i64 n, .lst xs]]⟩)]⟩ => bif Nat.beq q0 3 && Nat.beq q1 0 && Nat.beq q2 0 && Nat.beq q3 0 && Nat.beq q4 12 && Nat.beq q5 13 && Nat.beq q6 14 && Nat.beq q7 0 then some (⟨os, cnt⟩, ⟨n, xs, i⟩) else none
  | _ => none
def pkL (inv : pkC → pkX → pkX → Nat → Prop) : LoopS where
  C := pkC
  X := pkX
  st := pkSt
  un := pkUn
  ok := by
    intro s c x h
    unfold pkUn at h
    split at h
    · simp only [Bool.cond_eq_ite] at h
      split at h
      · rename_i hg
        simp only [Bool.and_eq_true, Nat.beq_eq] at hg
        obtain ⟨⟨⟨⟨⟨⟨⟨rfl, rfl⟩, rfl⟩, rfl⟩, rfl⟩, rfl⟩, rfl⟩, rfl⟩ := hg
        cases h
        rfl
      · cases h
    · cases h
  inv := inv

structure poC where
  os : List (List V)
  cnt : Int
structure poX where
  n : Int
  xs : List (List V)
  wa : List UInt8
  wb : List UInt8
  i : Int
def poSt (c : poC) (x : poX) : St := ⟨[(3, .ptr 0 0 0), (8, .ptr 1 0 0), (55, .lst c.os), (56, .int .i64 c.cnt), (57, .int .i64 x.i)], [(0, ⟨true, true, true, [[.int .i64 x.n, .lst x.xs]]⟩), (1, ⟨true, true, true, [[.str x.wa, .str x.wb]]⟩)]⟩
def poUn (s : St) : Option (poC × poX) :=
  match s with
  | ⟨[(q0, .ptr q1 q2 q3), (q4, .ptr q5 q6 q7), (q8, .lst os), (q9, .int .i64 cnt), (q10, .int .i64 i)], [(q11, ⟨true, true, true, [[.int .i64 n, .lst xs]]⟩), (q12, ⟨true, true, true, [[.str wa, .str wb]]⟩)]⟩ => bif Nat.beq q0 3 && Nat.beq q1 0 && Nat.beq q2 0 && Nat.beq q3 0 && Nat.beq q4 8 && Nat.beq q5 1 && Nat.beq q6 0 && Nat.beq q7 0 && Nat.beq q8 55 && Nat.beq q9 56 && Nat.beq q10 57 && Nat.beq q11 0 && Nat.beq q12 1 then some (⟨os, cnt⟩, ⟨n, xs, wa, wb, i⟩) else none
  | _ => none
def poL (inv : poC → poX → poX → Nat → Prop) : LoopS where
  C := poC
  X := poX
  st := poSt
  un := poUn
  ok := by
    intro s c x h
    unfold poUn at h
    split at h
    · simp only [Bool.cond_eq_ite] at h
      split at h
      · rename_i hg
        simp only [Bool.and_eq_true, Nat.beq_eq] at hg
        obtain ⟨⟨⟨⟨⟨⟨⟨⟨⟨⟨⟨⟨rfl, rfl⟩, rfl⟩, rfl⟩, rfl⟩, rfl⟩, rfl⟩, rfl⟩, rfl⟩, rfl⟩, rfl⟩, rfl⟩, rfl⟩ := hg
        cases h
        rfl
      · cases h
    · cases h
  inv := inv

theorem lca_vc (n : Int) (xs : List (List V)) (o : Op) (K : V → List Bk → Prop) : vcF Tryd.prog cfgN (ctOf [(8, smallCon), (9, okCon), (10, rightCon), (11, rightCon), (12, stepCon)]) (lpOf []) 3 [.agg [.int .i64 n, .lst xs], .agg o.v] [] K = (
  br (notB (leI (lenL xs) 80)) (
    K (V.bool true) []) (
    br (ltI 20000 (lenS o.4)) (
      K (V.bool true) []) (
      ∃ l4 : List Pipe, ((xs : List (List V)) = pipeV l4) ∧ (
      (((l4.length : Nat) ≤ 100000)) ∧ (
      br (notB (rightP n l4)) (
        ∃ l5 : List Pipe, ((xs : List (List V)) = pipeV l5) ∧ (
        (((l5.length : Nat) ≤ 100000)) ∧ (
        br (notB (rightP n l5)) (
          K (V.bool true) []) (
          K (V.bool false) [])))) (
        ∃ l5 : List Pipe, ∃ o6 : Op, ((xs : List (List V)) = pipeV l5) ∧ (
        (([V.int IntKind.i64 o.1, V.int IntKind.i64 o.2, V.int IntKind.i64 o.3, V.str o.4] : List V) = [V.int IntKind.i64 o6.1, V.int IntKind.i64 o6.2, V.int IntKind.i64 o6.3, V.str o6.4]) ∧ (
        (goodL n l5) ∧ (
        (((o6.2 : Int) ≤ 9223372036854775807)) ∧ (
        (((o6.3 : Int) ≤ 9223372036854775807)) ∧ (
        (((o6.4.length : Nat) ≤ 100000)) ∧ (
        K (V.bool true) [])))))))))))) := by kernel_rfl

theorem lke_vc (os : List (List V)) (I : pkC → pkX → pkX → Nat → Prop) (K : V → List Bk → Prop) : vcF Tryd.prog cfgN (ctOf [(9, okCon), (11, rightCon), (12, stepCon)]) (lpOf [(5, pkL I)]) 4 [.lst os] [] K = (
  br (ltI 40 (lenL os)) (
    K (V.bool true) []) (
    (∃ m3 : Nat, (((m3 : Nat) < 18446744073709551616)) ∧ (
    I (pkC.mk os (lenL os)) (pkX.mk 0 [] 0) (pkX.mk 0 [] 0) m3)) ∧ (
    ∀ x3 : (pkL I).X, ∀ m4 : Nat, (I (pkC.mk os (lenL os)) (pkX.mk 0 [] 0) x3 m4) → (
    br (ltI x3.3 (lenL os)) (
      need (andB (leI 0 x3.3) (ltI x3.3 (lenL os))) (
      need (okRow os x3.3.toNat 4) (
      ∃ n5 : Int, ∃ n6 : Int, ∃ n7 : Int, ∃ s8 : List UInt8, ((sub (rowAt os x3.3) 0 4 : Option (List V)) = some [V.int IntKind.i64 n5, V.int IntKind.i64 n6, V.int IntKind.i64 n7, V.str s8]) ∧ (
      br (ltI 9000 (lenS s8)) (
        K (V.bool true) []) (
        ∃ l9 : List Pipe, ∃ o10 : Op, ((x3.2 : List (List V)) = pipeV l9) ∧ (
        (([V.int IntKind.i64 n5, V.int IntKind.i64 n6, V.int IntKind.i64 n7, V.str s8] : List V) = [V.int IntKind.i64 o10.1, V.int IntKind.i64 o10.2, V.int IntKind.i64 o10.3, V.str o10.4]) ∧ (
        (goodL x3.1 l9) ∧ (
        (((o10.2 : Int) ≤ 9223372036854775807)) ∧ (
        (((o10.3 : Int) ≤ 9223372036854775807)) ∧ (
        (((o10.4.length : Nat) ≤ 100000)) ∧ (
        ∃ l11 : List Pipe, ((pipeV (stepF x3.n l9 o10).2 : List (List V)) = pipeV l11) ∧ (
        (((l11.length : Nat) ≤ 100000)) ∧ (
        br (notB (rightP (stepF x3.n l9 o10).1 l11)) (
          K (V.bool false) []) (
          ((pkC.mk os (lenL os) : (pkL I).C) = pkC.mk os (lenL os)) ∧ (
          ∃ m'12 : Nat, (((m'12 : Nat) < m4)) ∧ (
          I (pkC.mk os (lenL os)) (pkX.mk 0 [] 0) (pkX.mk (stepF x3.n l9 o10).1 (pipeV (stepF x3.n l9 o10).2) (addI IntKind.i64 x3.3 1)) m'12)))))))))))))))) (
      K (V.bool true) []))))) := by kernel_rfl

def lor_vc_4 (os : List (List V)) (I : poC → poX → poX → Nat → Prop) (K : V → List Bk → Prop) (n9 : Int) (l12 : List Pipe) (n10 : Int) (x6 : (poL I).X) (m7 : Nat) (l3 : List Pipe) (l5 : List Pipe) : Prop :=
  (
                                  need (andB (leI 0 (andI IntKind.i64 n9 1)) (ltI (andI IntKind.i64 n9 1) 2)) (
                                  br (eqI (andI IntKind.i64 n9 1) 0) (
                                    need (andB true (leI (lenS (readF l12 (addI IntKind.i64 2 (andI IntKind.i64 n9 1)) n10).snd.1) (lenS x6.3))) (
                                    need (andB (leI 0 (andI IntKind.i64 n9 1)) (ltI (andI IntKind.i64 n9 1) 2)) (
                                    br (eqI (andI IntKind.i64 n9 1) 0) (
                                      ((poC.mk os (lenL os) : (poL I).C) = poC.mk os (lenL os)) ∧ (
                                      ∃ m'13 : Nat, (((m'13 : Nat) < m7)) ∧ (
                                      I (poC.mk os (lenL os)) (poX.mk (makeF 0 l3).fst.1 (pipeV (openF l5 3 2).1) [] [] 0) (poX.mk x6.1 (pipeV (readF l12 (addI IntKind.i64 2 (andI IntKind.i64 n9 1)) n10).1) (cutS x6.3 (lenS (readF l12 (addI IntKind.i64 2 (andI IntKind.i64 n9 1)) n10).snd.1) (lenS x6.3)) x6.4 (addI IntKind.i64 x6.5 1)) m'13))) (
                                      need (eqI (andI IntKind.i64 n9 1) 1) (
                                      ((poC.mk os (lenL os) : (poL I).C) = poC.mk os (lenL os)) ∧ (
                                      ∃ m'13 : Nat, (((m'13 : Nat) < m7)) ∧ (
                                      I (poC.mk os (lenL os)) (poX.mk (makeF 0 l3).fst.1 (pipeV (openF l5 3 2).1) [] [] 0) (poX.mk x6.1 (pipeV (readF l12 (addI IntKind.i64 2 (andI IntKind.i64 n9 1)) n10).1) x6.3 (cutS x6.3 (lenS (readF l12 (addI IntKind.i64 2 (andI IntKind.i64 n9 1)) n10).snd.1) (lenS x6.3)) (addI IntKind.i64 x6.5 1)) m'13))))))) (
                                    need (eqI (andI IntKind.i64 n9 1) 1) (
                                    need (andB true (leI (lenS (readF l12 (addI IntKind.i64 2 (andI IntKind.i64 n9 1)) n10).snd.1) (lenS x6.4))) (
                                    need (andB (leI 0 (andI IntKind.i64 n9 1)) (ltI (andI IntKind.i64 n9 1) 2)) (
                                    br (eqI (andI IntKind.i64 n9 1) 0) (
                                      ((poC.mk os (lenL os) : (poL I).C) = poC.mk os (lenL os)) ∧ (
                                      ∃ m'13 : Nat, (((m'13 : Nat) < m7)) ∧ (
                                      I (poC.mk os (lenL os)) (poX.mk (makeF 0 l3).fst.1 (pipeV (openF l5 3 2).1) [] [] 0) (poX.mk x6.1 (pipeV (readF l12 (addI IntKind.i64 2 (andI IntKind.i64 n9 1)) n10).1) (cutS x6.4 (lenS (readF l12 (addI IntKind.i64 2 (andI IntKind.i64 n9 1)) n10).snd.1) (lenS x6.4)) x6.4 (addI IntKind.i64 x6.5 1)) m'13))) (
                                      need (eqI (andI IntKind.i64 n9 1) 1) (
                                      ((poC.mk os (lenL os) : (poL I).C) = poC.mk os (lenL os)) ∧ (
                                      ∃ m'13 : Nat, (((m'13 : Nat) < m7)) ∧ (
                                      I (poC.mk os (lenL os)) (poX.mk (makeF 0 l3).fst.1 (pipeV (openF l5 3 2).1) [] [] 0) (poX.mk x6.1 (pipeV (readF l12 (addI IntKind.i64 2 (andI IntKind.i64 n9 1)) n10).1) x6.3 (cutS x6.4 (lenS (readF l12 (addI IntKind.i64 2 (andI IntKind.i64 n9 1)) n10).snd.1) (lenS x6.4)) (addI IntKind.i64 x6.5 1)) m'13))))))))))
def lor_vc_3 (os : List (List V)) (I : poC → poX → poX → Nat → Prop) (K : V → List Bk → Prop) (l12 : List Pipe) (n9 : Int) (n10 : Int) (x6 : (poL I).X) (m7 : Nat) (l3 : List Pipe) (l5 : List Pipe) : Prop :=
  (
                                  br (eqS (readF l12 (addI IntKind.i64 2 (andI IntKind.i64 n9 1)) n10).snd.1 []) (
                                    K (V.bool false) []) (lor_vc_4 os I K n9 l12 n10 x6 m7 l3 l5))
def lor_vc_2 (os : List (List V)) (I : poC → poX → poX → Nat → Prop) (K : V → List Bk → Prop) (l12 : List Pipe) (n9 : Int) (n10 : Int) (x6 : (poL I).X) (m7 : Nat) (l3 : List Pipe) (l5 : List Pipe) : Prop :=
  (
                          br (eqI (readF l12 (addI IntKind.i64 2 (andI IntKind.i64 n9 1)) n10).snd.snd.2 0) (
                            br (ltI 0 n10) (
                              need (andB (leI 0 (andI IntKind.i64 n9 1)) (ltI (andI IntKind.i64 n9 1) 2)) (
                              br (eqI (andI IntKind.i64 n9 1) 0) (
                                br (notB (eqS x6.3 [])) (lor_vc_3 os I K l12 n9 n10 x6 m7 l3 l5) (lor_vc_4 os I K n9 l12 n10 x6 m7 l3 l5)) (
                                need (eqI (andI IntKind.i64 n9 1) 1) (
                                br (notB (eqS x6.4 [])) (lor_vc_3 os I K l12 n9 n10 x6 m7 l3 l5) (lor_vc_4 os I K n9 l12 n10 x6 m7 l3 l5))))) (lor_vc_4 os I K n9 l12 n10 x6 m7 l3 l5)) (lor_vc_4 os I K n9 l12 n10 x6 m7 l3 l5))
def lor_vc_1 (os : List (List V)) (I : poC → poX → poX → Nat → Prop) (K : V → List Bk → Prop) (n9 : Int) (l12 : List Pipe) (n10 : Int) (x6 : (poL I).X) (m7 : Nat) (l3 : List Pipe) (l5 : List Pipe) : Prop :=
  (
                      need (andB (leI 0 (andI IntKind.i64 n9 1)) (ltI (andI IntKind.i64 n9 1) 2)) (
                      br (eqI (andI IntKind.i64 n9 1) 0) (
                        need (andB true (leI (lenS (readF l12 (addI IntKind.i64 2 (andI IntKind.i64 n9 1)) n10).snd.1) (lenS x6.3))) (
                        br (notB (eqS (cutS x6.3 0 (lenS (readF l12 (addI IntKind.i64 2 (andI IntKind.i64 n9 1)) n10).snd.1)) (readF l12 (addI IntKind.i64 2 (andI IntKind.i64 n9 1)) n10).snd.1)) (
                          K (V.bool false) []) (lor_vc_2 os I K l12 n9 n10 x6 m7 l3 l5))) (
                        need (eqI (andI IntKind.i64 n9 1) 1) (
                        need (andB true (leI (lenS (readF l12 (addI IntKind.i64 2 (andI IntKind.i64 n9 1)) n10).snd.1) (lenS x6.4))) (
                        br (notB (eqS (cutS x6.4 0 (lenS (readF l12 (addI IntKind.i64 2 (andI IntKind.i64 n9 1)) n10).snd.1)) (readF l12 (addI IntKind.i64 2 (andI IntKind.i64 n9 1)) n10).snd.1)) (
                          K (V.bool false) []) (lor_vc_2 os I K l12 n9 n10 x6 m7 l3 l5))))))
def lor_vc_5 (os : List (List V)) (I : poC → poX → poX → Nat → Prop) (K : V → List Bk → Prop) (l12 : List Pipe) (n9 : Int) (s11 : List UInt8) (m7 : Nat) (l3 : List Pipe) (l5 : List Pipe) (x6 : (poL I).X) : Prop :=
  (
                        br (notB (eqI (writeF l12 (addI IntKind.i64 2 (andI IntKind.i64 n9 1)) s11).snd.1 0)) (
                          K (V.bool false) []) (
                          ((poC.mk os (lenL os) : (poL I).C) = poC.mk os (lenL os)) ∧ (
                          ∃ m'13 : Nat, (((m'13 : Nat) < m7)) ∧ (
                          I (poC.mk os (lenL os)) (poX.mk (makeF 0 l3).fst.1 (pipeV (openF l5 3 2).1) [] [] 0) (poX.mk x6.1 (pipeV (writeF l12 (addI IntKind.i64 2 (andI IntKind.i64 n9 1)) s11).1) x6.3 x6.4 (addI IntKind.i64 x6.5 1)) m'13))))
theorem lor_vc (os : List (List V)) (I : poC → poX → poX → Nat → Prop) (K : V → List Bk → Prop) : vcF Tryd.prog cfgN (ctOf [(9, okCon), (13, makeCon), (14, openCon), (16, readCon), (15, writeCon)]) (lpOf [(10, poL I)]) 5 [.lst os] [] K = (
  br (ltI 40 (lenL os)) (
    K (V.bool true) []) (
    ∃ l3 : List Pipe, (([] : List (List V)) = pipeV l3) ∧ (
    (((l3.length : Nat) ≤ 1000)) ∧ (
    (((0 : Int) ≤ 0)) ∧ (
    (((0 : Int) = 0) → (
    (l3 : List Pipe) = [])) ∧ (
    ∃ l4 : List Pipe, ((pipeV (makeF 0 l3).fst.2 : List (List V)) = pipeV l4) ∧ (
    (okL l4) ∧ (
    (((2 : Int) ≤ 9223372036854775807)) ∧ (
    (((2 : Int) ≤ 9223372036854775807)) ∧ (
    ∃ l5 : List Pipe, ((pipeV (openF l4 2 2).1 : List (List V)) = pipeV l5) ∧ (
    (okL l5) ∧ (
    (((3 : Int) ≤ 9223372036854775807)) ∧ (
    (((2 : Int) ≤ 9223372036854775807)) ∧ (
    br (notB (eqI (makeF 0 l3).snd.1 1)) (
      K (V.bool false) []) (
      br (notB (eqI (makeF 0 l3).snd.2 0)) (
        K (V.bool false) []) (
        br (notB (eqI (openF l4 2 2).2 0)) (
          K (V.bool false) []) (
          br (notB (eqI (openF l5 3 2).2 0)) (
            K (V.bool false) []) (
            (∃ m6 : Nat, (((m6 : Nat) < 18446744073709551616)) ∧ (
            I (poC.mk os (lenL os)) (poX.mk (makeF 0 l3).fst.1 (pipeV (openF l5 3 2).1) [] [] 0) (poX.mk (makeF 0 l3).fst.1 (pipeV (openF l5 3 2).1) [] [] 0) m6)) ∧ (
            ∀ x6 : (poL I).X, ∀ m7 : Nat, (I (poC.mk os (lenL os)) (poX.mk (makeF 0 l3).fst.1 (pipeV (openF l5 3 2).1) [] [] 0) x6 m7) → (
            br (ltI x6.5 (lenL os)) (
              need (andB (leI 0 x6.5) (ltI x6.5 (lenL os))) (
              need (okRow os x6.5.toNat 4) (
              ∃ n8 : Int, ∃ n9 : Int, ∃ n10 : Int, ∃ s11 : List UInt8, ((sub (rowAt os x6.5) 0 4 : Option (List V)) = some [V.int IntKind.i64 n8, V.int IntKind.i64 n9, V.int IntKind.i64 n10, V.str s11]) ∧ (
              br (ltI 9000 (lenS s11)) (
                K (V.bool true) []) (
                br (eqI n8 3) (
                  ∃ l12 : List Pipe, ((x6.2 : List (List V)) = pipeV l12) ∧ (
                  (okL l12) ∧ (
                  (((addI IntKind.i64 2 (andI IntKind.i64 n9 1) : Int) ≤ 9223372036854775807)) ∧ (
                  (((s11.length : Nat) ≤ 100000)) ∧ (
                  br (eqI (writeF l12 (addI IntKind.i64 2 (andI IntKind.i64 n9 1)) s11).snd.snd.2 0) (
                    br (notB (writeF l12 (addI IntKind.i64 2 (andI IntKind.i64 n9 1)) s11).snd.snd.1) (
                      br (eqI (writeF l12 (addI IntKind.i64 2 (andI IntKind.i64 n9 1)) s11).snd.1 (lenS s11)) (
                        need (andB (leI 0 (subI IntKind.i64 1 (andI IntKind.i64 n9 1))) (ltI (subI IntKind.i64 1 (andI IntKind.i64 n9 1)) 2)) (
                        br (eqI (subI IntKind.i64 1 (andI IntKind.i64 n9 1)) 0) (
                          need (catOk x6.3 s11) (
                          need (andB (leI 0 (subI IntKind.i64 1 (andI IntKind.i64 n9 1))) (ltI (subI IntKind.i64 1 (andI IntKind.i64 n9 1)) 2)) (
                          br (eqI (subI IntKind.i64 1 (andI IntKind.i64 n9 1)) 0) (
                            ((poC.mk os (lenL os) : (poL I).C) = poC.mk os (lenL os)) ∧ (
                            ∃ m'13 : Nat, (((m'13 : Nat) < m7)) ∧ (
                            I (poC.mk os (lenL os)) (poX.mk (makeF 0 l3).fst.1 (pipeV (openF l5 3 2).1) [] [] 0) (poX.mk x6.1 (pipeV (writeF l12 (addI IntKind.i64 2 (andI IntKind.i64 n9 1)) s11).1) (catS x6.3 s11) x6.4 (addI IntKind.i64 x6.5 1)) m'13))) (
                            need (eqI (subI IntKind.i64 1 (andI IntKind.i64 n9 1)) 1) (
                            ((poC.mk os (lenL os) : (poL I).C) = poC.mk os (lenL os)) ∧ (
                            ∃ m'13 : Nat, (((m'13 : Nat) < m7)) ∧ (
                            I (poC.mk os (lenL os)) (poX.mk (makeF 0 l3).fst.1 (pipeV (openF l5 3 2).1) [] [] 0) (poX.mk x6.1 (pipeV (writeF l12 (addI IntKind.i64 2 (andI IntKind.i64 n9 1)) s11).1) x6.3 (catS x6.3 s11) (addI IntKind.i64 x6.5 1)) m'13))))))) (
                          need (eqI (subI IntKind.i64 1 (andI IntKind.i64 n9 1)) 1) (
                          need (catOk x6.4 s11) (
                          need (andB (leI 0 (subI IntKind.i64 1 (andI IntKind.i64 n9 1))) (ltI (subI IntKind.i64 1 (andI IntKind.i64 n9 1)) 2)) (
                          br (eqI (subI IntKind.i64 1 (andI IntKind.i64 n9 1)) 0) (
                            ((poC.mk os (lenL os) : (poL I).C) = poC.mk os (lenL os)) ∧ (
                            ∃ m'13 : Nat, (((m'13 : Nat) < m7)) ∧ (
                            I (poC.mk os (lenL os)) (poX.mk (makeF 0 l3).fst.1 (pipeV (openF l5 3 2).1) [] [] 0) (poX.mk x6.1 (pipeV (writeF l12 (addI IntKind.i64 2 (andI IntKind.i64 n9 1)) s11).1) (catS x6.4 s11) x6.4 (addI IntKind.i64 x6.5 1)) m'13))) (
                            need (eqI (subI IntKind.i64 1 (andI IntKind.i64 n9 1)) 1) (
                            ((poC.mk os (lenL os) : (poL I).C) = poC.mk os (lenL os)) ∧ (
                            ∃ m'13 : Nat, (((m'13 : Nat) < m7)) ∧ (
                            I (poC.mk os (lenL os)) (poX.mk (makeF 0 l3).fst.1 (pipeV (openF l5 3 2).1) [] [] 0) (poX.mk x6.1 (pipeV (writeF l12 (addI IntKind.i64 2 (andI IntKind.i64 n9 1)) s11).1) x6.3 (catS x6.4 s11) (addI IntKind.i64 x6.5 1)) m'13)))))))))) (lor_vc_5 os I K l12 n9 s11 m7 l3 l5 x6)) (lor_vc_5 os I K l12 n9 s11 m7 l3 l5 x6)) (lor_vc_5 os I K l12 n9 s11 m7 l3 l5 x6)))))) (
                  ∃ l12 : List Pipe, ((x6.2 : List (List V)) = pipeV l12) ∧ (
                  (okL l12) ∧ (
                  (((addI IntKind.i64 2 (andI IntKind.i64 n9 1) : Int) ≤ 9223372036854775807)) ∧ (
                  (((n10 : Int) ≤ 9223372036854775807)) ∧ (
                  need (andB (leI 0 (andI IntKind.i64 n9 1)) (ltI (andI IntKind.i64 n9 1) 2)) (
                  br (eqI (andI IntKind.i64 n9 1) 0) (
                    br (ltI (lenS x6.3) (lenS (readF l12 (addI IntKind.i64 2 (andI IntKind.i64 n9 1)) n10).snd.1)) (
                      K (V.bool false) []) (lor_vc_1 os I K n9 l12 n10 x6 m7 l3 l5)) (
                    need (eqI (andI IntKind.i64 n9 1) 1) (
                    br (ltI (lenS x6.4) (lenS (readF l12 (addI IntKind.i64 2 (andI IntKind.i64 n9 1)) n10).snd.1)) (
                      K (V.bool false) []) (lor_vc_1 os I K n9 l12 n10 x6 m7 l3 l5)))))))))))))) (
              K (V.bool true) []))))))))))))))))))))) := by kernel_rfl

end Go.Proofs.YtjplfafojmkpbaaDoor
namespace Go.Proofs.YtjplfafojmkpbaaDoor
open Go.RowKit
set_option maxRecDepth 100000
set_option linter.unusedVariables false
set_option linter.unusedSimpArgs false
def Says (f : Nat) (vs : List V) : Prop := ∃ r out, evalF Tryd.prog cfgN 20 f vs [] = some (r, out) ∧ r = .bool true ∧ out = []
theorem ok_con {n : Nat} (hn : 12 ≤ n) : ConOk (evalF Tryd.prog cfgN n) 9 okCon := by
  intro vs bs K h
  unfold okCon at h
  split at h
  · exact ⟨_, _, alive_ev hn, h⟩
  · exact h.elim
theorem small_con {n : Nat} (hn : 1 ≤ n) : ConOk (evalF Tryd.prog cfgN n) 8 smallCon := by
  intro vs bs K h
  unfold smallCon at h
  split at h
  · refine run_of (lp := lpOf []) hn (fun k _ => noCt_ok _) ?_
    rw [smal_vc]
    exact h
  · exact h.elim
theorem calls_says {n : Int} {l : List Pipe} {o : Op} (ho : o.fit) : Says 3 [.agg [.int .i64 n, .lst (pipeV l)], .agg o.v] := by
  refine run_of (lp := lpOf []) (ct := ctOf [(8, smallCon), (9, okCon), (10, rightCon), (11, rightCon), (12, stepCon)]) (by omega)
    (fun k hk => ctOf_ok (ctOf_cons (small_con (by omega)) (ctOf_cons (ok_con (by omega)) (ctOf_cons (rr_con (by omega)) (ctOf_cons (pr_con (by omega)) (ctOf_cons (st_con (by omega)) (ctOf_nil _))))))) ?_
  rw [lca_vc]
  have tt : (V.bool true = V.bool true ∧ ([] : List Bk) = []) := ⟨rfl, rfl⟩
  rw [pipeV_lenL]
  rw [br_iff]; refine ⟨fun _ => tt, fun g1 => ?_⟩
  rw [br_iff]; refine ⟨fun _ => tt, fun g2 => ?_⟩
  simp only [br_iff, need_iff, andB_t, andB_f, orB_t, orB_f, notB_t, notB_f, leI_t, leI_f, ltI_t, ltI_f, eqI_t, eqI_f, leN_t, leN_f, eqN_t, eqN_f, eqS_t, eqS_f, eqB_t, eqB_f, catOk_t, leC_t, lenS] at g1 g2
  refine ⟨l, rfl, by omega, ?_⟩
  rw [br_iff]; refine ⟨fun g3 => ⟨l, rfl, by omega, ?_⟩, fun g3 => ⟨l, o, rfl, rfl, ?_, ?_, ?_, by omega, tt⟩⟩
  · rw [g3]; exact tt
  · simp only [br_iff, need_iff, andB_t, andB_f, orB_t, orB_f, notB_t, notB_f, leI_t, leI_f, ltI_t, ltI_f, eqI_t, eqI_f, leN_t, leN_f, eqN_t, eqN_f, eqS_t, eqS_f, eqB_t, eqB_f, catOk_t, leC_t] at g3; exact rightP_good.1 g3
  · exact ho.2.1.2
  · exact ho.2.2.1.2
theorem keeps_says {os : List Op} (ho : ∀ o ∈ os, o.fit) : Says 4 [.lst (opV os)] := by
  refine run_of (lp := lpOf [(5, pkL fun _ _ x m => ∃ (j : Nat) (l : List Pipe), x.i = (j : Int) ∧ x.xs = pipeV l ∧ goodL x.n l ∧ j + m = os.length)]) (ct := ctOf [(9, okCon), (11, rightCon), (12, stepCon)]) (by omega)
    (fun k hk => ctOf_ok (ctOf_cons (ok_con (by omega)) (ctOf_cons (pr_con (by omega)) (ctOf_cons (st_con (by omega)) (ctOf_nil _))))) ?_
  rw [lke_vc]
  have tt : True ∧ True := ⟨trivial, trivial⟩
  simp only [opV_lenL]
  rw [br_iff]; refine ⟨fun _ => tt, fun g1 => ?_⟩
  simp only [br_iff, need_iff, andB_t, andB_f, orB_t, orB_f, notB_t, notB_f, leI_t, leI_f, ltI_t, ltI_f, eqI_t, eqI_f, leN_t, leN_f, eqN_t, eqN_f, eqS_t, eqS_f, eqB_t, eqB_f, catOk_t, leC_t] at g1
  refine ⟨⟨os.length, by omega, 0, [], rfl, rfl, rightP_good.1 (rightP_iff.2 ⟨by simp, by simp [nextF], by simp [nextF], by simp⟩), by omega⟩, ?_⟩
  rintro ⟨n, xs, i⟩ m ⟨j, l, hi, hx, hg, hj⟩
  dsimp only at hi hx hg ⊢
  subst hi; subst hx
  rw [br_iff]
  refine ⟨fun hlt => ?_, fun hge => tt⟩
  have hlt : j < os.length := by simp only [br_iff, need_iff, andB_t, andB_f, orB_t, orB_f, notB_t, notB_f, leI_t, leI_f, ltI_t, ltI_f, eqI_t, eqI_f, leN_t, leN_f, eqN_t, eqN_f, eqS_t, eqS_f, eqB_t, eqB_f, catOk_t, leC_t] at hlt; omega
  have gf : os[j]? = some os[j] := List.getElem?_eq_getElem hlt
  generalize os[j] = f at gf
  have rf := opV_row gf
  have kf : okRow (opV os) (Int.toNat (j : Int)) 4 = true := by simpa using opV_ok (l := os) (i := j) hlt
  have nf : andB (leI 0 (j : Int)) (ltI (j : Int) (os.length : Int)) = true := by simp only [br_iff, need_iff, andB_t, andB_f, orB_t, orB_f, notB_t, notB_f, leI_t, leI_f, ltI_t, ltI_f, eqI_t, eqI_f, leN_t, leN_f, eqN_t, eqN_f, eqS_t, eqS_f, eqB_t, eqB_f, catOk_t, leC_t]; omega
  rw [need_iff, need_iff]
  refine ⟨nf, kf, ?_⟩
  try rw [rf]
  repeat apply Exists.intro
  refine ⟨rfl, ?_⟩
  rw [br_iff]; refine ⟨fun _ => tt, fun g2 => ?_⟩
  simp only [br_iff, need_iff, andB_t, andB_f, orB_t, orB_f, notB_t, notB_f, leI_t, leI_f, ltI_t, ltI_f, eqI_t, eqI_f, leN_t, leN_f, eqN_t, eqN_f, eqS_t, eqS_f, eqB_t, eqB_f, catOk_t, leC_t, lenS] at g2
  have hf := ho f (List.mem_of_getElem? gf)
  have hs := stepF_good f hg
  refine ⟨l, f, rfl, rfl, hg, hf.2.1.2, hf.2.2.1.2, by omega, _, rfl, by have := hs.1; omega, ?_⟩
  rw [rightP_good.2 hs]
  exact ⟨by trivial, m - 1, by omega, j + 1, _, by rw [addI_i64 (by omega) (by omega)]; rfl, rfl, hs, by omega⟩
def pipesSh : Sh := .pair (.int .i64) (.pair (.slice 88 9 pipeSh) .unit)
def callsSh : List Sh := [pipesSh, opSh]
def keepsSh : List Sh := [.slice 40 4 opSh]
theorem pipes_fits {v : V} (h : FitsA pipesSh v) : ∃ (n : Int) (l : List Pipe), v = .agg [.int .i64 n, .lst (pipeV l)] := by
  obtain ⟨vs, rfl, h⟩ := h
  obtain ⟨u1, w1, rfl, ⟨n, rfl, _⟩, u2, w2, rfl, ⟨xs, rfl, _, h2⟩, rfl⟩ := h
  obtain ⟨l, rfl, _⟩ := rows_of Pipe.v (fun a => a.fit) (fun q hq => Pipe.fits (h2 q hq).2)
  exact ⟨n, l, rfl⟩
theorem op_fits {v : V} (h : FitsA opSh v) : ∃ o : Op, v = .agg o.v ∧ o.fit := by
  obtain ⟨vs, rfl, h⟩ := h
  obtain ⟨o, rfl, ho⟩ := Op.fits h
  exact ⟨o, rfl, ho⟩
theorem ops_fits {v : V} (h : FitsA (.slice 40 4 opSh) v) : ∃ l : List Op, v = .lst (opV l) ∧ ∀ a ∈ l, a.fit := by
  obtain ⟨xs, h1, _, h2⟩ := h
  obtain ⟨l, rfl, hl⟩ := rows_of Op.v (fun a => a.fit) (fun q hq => Op.fits (h2 q hq).2)
  exact ⟨l, by simpa [opV] using h1, hl⟩
theorem calls_fits {us : List V} (h : FitsAll callsSh us) : Says 3 us := by
  obtain ⟨v0, r0, rfl, h0, v1, r1, rfl, h1, rfl⟩ := h
  obtain ⟨n, l, rfl⟩ := pipes_fits h0
  obtain ⟨o, rfl, ho⟩ := op_fits h1
  exact calls_says ho
theorem keeps_fits {us : List V} (h : FitsAll keepsSh us) : Says 4 us := by
  obtain ⟨v0, r0, rfl, h0, rfl⟩ := h
  obtain ⟨l, rfl, hl⟩ := ops_fits h0
  exact keeps_says hl
end Go.Proofs.YtjplfafojmkpbaaDoor
