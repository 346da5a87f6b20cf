/- Trees: what a call changes. -/
import Derived.Test.YtepehbbagbfmcaaTrCalls
namespace Go.Proofs.Ytepehbbagbfmcaa
open Go.RowKit
set_option maxRecDepth 100000
set_option linter.unusedVariables false
set_option linter.unusedSimpArgs false
theorem has_mem {l : List Node} {x : Node} (hx : x ∈ l) : hasB l x.id = true := by
  unfold hasB
  exact List.find?_isSome.2 ⟨x, hx, by rw [idP_t]⟩
theorem mem_has {l : List Node} {s : Int} (h : hasB l s = true) : ∃ x ∈ l, x.id = s := by
  obtain ⟨k, x, gx, e, _⟩ := has_at h
  exact ⟨x, List.mem_of_getElem? gx, e⟩
theorem node_mem {n : Int} {l : List Node} (h : goodT n l) {x : Node} (hx : x ∈ l) : nodeF l x.id = x := by
  obtain ⟨k, gx⟩ := List.mem_iff_getElem?.1 hx
  exact (good_node h gx).1
theorem good_pw {n : Int} {l : List Node} (h : goodT n l) : l.Pairwise fun x y => x.id < y.id :=
  List.pairwise_iff_getElem.2 fun i j hi hj hij => good_asc h hij (List.getElem?_eq_getElem hi) (List.getElem?_eq_getElem hj)
theorem count_one {n : Int} {l : List Node} (h : goodT n l) {p : Node → Bool} {a : Int} (hp : ∀ x ∈ l, p x = true → x.id = a) : (l.filter p).length ≤ 1 := by
  have hw := (good_pw h).filter p
  have hm : ∀ x ∈ l.filter p, x.id = a := fun x hx => hp x (List.mem_filter.1 hx).1 (List.mem_filter.1 hx).2
  generalize l.filter p = f at hw hm
  match f, hw, hm with
  | [], _, _ => simp
  | [x], _, _ => simp
  | x :: y :: t, hw, hm =>
    have h1 := hm x (by simp)
    have h2 := hm y (by simp)
    have h3 := (List.pairwise_cons.1 hw).1 y (by simp)
    omega
theorem count_two {n : Int} {l : List Node} (h : goodT n l) {p : Node → Bool} {a b : Int} (hp : ∀ x ∈ l, p x = true → x.id = a ∨ x.id = b) : (l.filter p).length ≤ 2 := by
  have hw := (good_pw h).filter p
  have hm : ∀ x ∈ l.filter p, x.id = a ∨ x.id = b := fun x hx => hp x (List.mem_filter.1 hx).1 (List.mem_filter.1 hx).2
  generalize l.filter p = f at hw hm
  match f, hw, hm with
  | [], _, _ => simp
  | [x], _, _ => simp
  | [x, y], _, _ => simp
  | x :: y :: z :: t, hw, hm =>
    have h1 := hm x (by simp)
    have h2 := hm y (by simp)
    have h3 := hm z (by simp)
    have w := List.pairwise_cons.1 hw
    have h4 := w.1 y (by simp)
    have h5 := w.1 z (by simp)
    have h6 := (List.pairwise_cons.1 w.2).1 z (by simp)
    omega
noncomputable def chB (u : List Node) (x : Node) : Bool := @decide (hasB u x.id = true ∧ nodeF u x.id ≠ x) (Classical.propDecidable _)
theorem chB_t {u : List Node} {x : Node} : (chB u x = true) = (hasB u x.id = true ∧ nodeF u x.id ≠ x) := by simp [chB]
def goB (u : List Node) (x : Node) : Bool := !hasB u x.id
def nearP (n : Int) (l : List Node) (n' : Int) (u : List Node) : Prop := n ≤ n' ∧ u.length ≤ l.length + 1 ∧ (∀ y ∈ u, y.id = n ∨ hasB l y.id = true) ∧ (l.filter (chB u)).length ≤ 2 ∧ (l.filter (goB u)).length ≤ 1
theorem near_of {n n' : Int} {l u : List Node} (h : goodT n l) (hu : goodT n' u) (a b c : Int) (h1 : ∀ x ∈ l, x.id ≠ a → x.id ≠ b → x.id ≠ c → x ∈ u) (h2 : ∀ x ∈ l, x.id ≠ c → ∃ y ∈ u, y.id = x.id)
    (h3 : ∀ y ∈ u, y.id ≠ c) (h4 : ∀ y ∈ u, y.id = n ∨ ∃ x ∈ l, x.id = y.id) (hn : n ≤ n') (hl : u.length ≤ l.length + 1) : nearP n l n' u := by
  refine ⟨hn, hl, fun y hy => ?_, count_two (a := a) (b := b) h fun x hx q => ?_, count_one (a := c) h fun x hx q => ?_⟩
  · rcases h4 y hy with q | ⟨x, hx, q⟩
    · exact .inl q
    · rw [← q]; exact .inr (has_mem hx)
  · rw [chB_t] at q
    obtain ⟨y, hy, e⟩ := mem_has q.1
    have hc : x.id ≠ c := by rw [← e]; exact h3 y hy
    by_cases qa : x.id = a
    · exact .inl qa
    · by_cases qb : x.id = b
      · exact .inr qb
      · exact absurd (node_mem hu (h1 x hx qa qb hc)) q.2
  · by_cases qc : x.id = c
    · exact qc
    · obtain ⟨y, hy, e⟩ := h2 x hx qc
      have := has_mem hy
      rw [e] at this
      simp [goB, this] at q
theorem good_pos {n : Int} {l : List Node} (h : goodT n l) : ∀ x ∈ l, 1 ≤ x.id := fun x hx => by
  obtain ⟨k, gx⟩ := List.mem_iff_getElem?.1 hx
  rcases Nat.eq_zero_or_pos k with q | q
  · have := (good_head h gx).2 q; omega
  · have h0 : 0 < l.length := by have := h.1; omega
    have g0 : l[0]? = some l[0] := List.getElem?_eq_getElem h0
    have := good_asc h q g0 gx
    have := (good_head h g0).2 rfl
    omega
theorem wf1 {l : List Node} {y z : Node} (hz : z ∈ l) (h : z.id ≠ y.id) : z ∈ withF l y := List.mem_map.2 ⟨z, hz, by rw [if_neg h]⟩
theorem wf2 {l : List Node} {y z : Node} (hz : z ∈ l) : ∃ w ∈ withF l y, w.id = z.id := by
  refine ⟨_, List.mem_map.2 ⟨z, hz, rfl⟩, ?_⟩
  split
  · rename_i q; exact q.symm
  · rfl
theorem wf3 {l : List Node} {y w : Node} (hw : w ∈ withF l y) : ∃ z ∈ l, z.id = w.id := by
  obtain ⟨z, hz, e⟩ := List.mem_map.1 hw
  refine ⟨z, hz, ?_⟩
  rw [← e]
  split
  · assumption
  · rfl
/-- One node is put in its place. -/
theorem near_with {n : Int} {l : List Node} (h : goodT n l) {y : Node} (hu : goodT n (withF l y)) : nearP n l n (withF l y) :=
  near_of h hu y.id y.id 0 (fun x hx h1 _ _ => wf1 hx h1) (fun x hx _ => wf2 hx) (fun w hw => by have := good_pos hu w hw; omega) (fun w hw => .inr (wf3 hw)) (by omega) (by rw [with_len]; omega)
theorem near_self {n : Int} {l : List Node} (h : goodT n l) : nearP n l n l :=
  near_of h h 0 0 0 (fun x hx _ _ _ => hx) (fun x hx _ => ⟨x, hx, rfl⟩) (fun w hw => by have := good_pos h w hw; omega) (fun w hw => .inr ⟨w, hw, rfl⟩) (by omega) (by omega)
theorem near_with2 {n : Int} {l : List Node} (h : goodT n l) {y z : Node} (hu : goodT n (withF (withF l y) z)) : nearP n l n (withF (withF l y) z) :=
  near_of h hu y.id z.id 0 (fun x hx h1 h2 _ => wf1 (wf1 hx h1) h2) (fun x hx _ => by
    obtain ⟨w, hw, e⟩ := wf2 (y := y) hx
    obtain ⟨v, hv, e2⟩ := wf2 (y := z) hw
    exact ⟨v, hv, by rw [e2, e]⟩) (fun w hw => by have := good_pos hu w hw; omega) (fun w hw => by
    obtain ⟨v, hv, e⟩ := wf3 hw
    obtain ⟨x, hx, e2⟩ := wf3 hv
    exact .inr ⟨x, hx, by rw [e2, e]⟩) (by omega) (by rw [with_len, with_len]; omega)
theorem near_add {n : Int} {l : List Node} (h : goodT n l) {y z : Node} (hz : z.id = n) (hu : goodT (n + 1) (withF l y ++ [z])) : nearP n l (n + 1) (withF l y ++ [z]) :=
  near_of h hu y.id y.id 0 (fun x hx h1 _ _ => List.mem_append_left _ (wf1 hx h1)) (fun x hx _ => by
    obtain ⟨w, hw, e⟩ := wf2 (y := y) hx
    exact ⟨w, List.mem_append_left _ hw, e⟩) (fun w hw => by have := good_pos hu w hw; omega) (fun w hw => by
    rcases List.mem_append.1 hw with q | q
    · exact .inr (wf3 q)
    · rw [List.mem_singleton.1 q]; exact .inl hz) (by omega) (by rw [List.length_append, with_len]; simp)
theorem near_rem {n : Int} {l : List Node} (h : goodT n l) {s : Int} {y : Node} (hy : y.id ≠ s) (hu : goodT n (withF (l.filter (notP s)) y)) : nearP n l n (withF (l.filter (notP s)) y) :=
  near_of h hu y.id y.id s (fun x hx h1 _ h2 => wf1 (List.mem_filter.2 ⟨hx, by rw [notP_t]; exact h2⟩) h1) (fun x hx h2 => wf2 (List.mem_filter.2 ⟨hx, by rw [notP_t]; exact h2⟩)) (fun w hw => by
    obtain ⟨v, hv, e⟩ := wf3 hw
    have := (List.mem_filter.1 hv).2
    rw [notP_t] at this
    omega) (fun w hw => by
    obtain ⟨v, hv, e⟩ := wf3 hw
    exact .inr ⟨v, (List.mem_filter.1 hv).1, e⟩) (by omega) (by rw [with_len]; have := List.length_filter_le (notP s) l; omega)
theorem node_id {l : List Node} {s : Int} (h : hasB l s = true) : (nodeF l s).id = s := by
  obtain ⟨k, x, gx, e, en, _⟩ := has_at h
  rw [en]; exact e
/-- A call gives an error and the tree, or a tree near it. -/
theorem call_near {n : Int} {l : List Node} (h : goodT n l) {kind id : Int} {name : List UInt8} {mode : Int} {uid gid : List UInt8} {size : Int} {data : List UInt8} {now : Int} :
    ((callF n l kind id name mode uid gid size data now).2.2 ≠ 0 → (callF n l kind id name mode uid gid size data now).1 = (n, l)) ∧
    ((callF n l kind id name mode uid gid size data now).2.2 = 0 → nearP n l (callF n l kind id name mode uid gid size data now).1.1 (callF n l kind id name mode uid gid size data now).1.2) := by
  have hg := call_good h (kind := kind) (id := id) (name := name) (mode := mode) (uid := uid) (gid := gid) (size := size) (data := data) (now := now)
  unfold callF at hg ⊢
  split
  · rename_i k1
    rw [if_pos k1] at hg
    unfold createF at hg ⊢
    split
    · exact ⟨fun _ => rfl, fun q => absurd q (by assumption)⟩
    rename_i c1
    rw [if_neg c1] at hg
    split
    · exact ⟨fun _ => rfl, fun q => by cases q⟩
    rename_i c2
    rw [if_neg c2] at hg
    split
    · exact ⟨fun _ => rfl, fun q => by cases q⟩
    rename_i c3
    rw [if_neg c3] at hg
    split
    · exact ⟨fun _ => rfl, fun q => by cases q⟩
    rename_i c4
    rw [if_neg c4] at hg
    split
    · exact ⟨fun _ => rfl, fun q => by cases q⟩
    rename_i c5
    rw [if_neg c5] at hg
    exact ⟨fun q => absurd rfl q, fun _ => near_add h rfl hg⟩
  · rename_i k1
    rw [if_neg k1] at hg
    split
    · rename_i k2
      rw [if_pos k2] at hg
      unfold removeF at hg ⊢
      split
      · exact ⟨fun _ => rfl, fun q => by cases q⟩
      rename_i c1
      rw [if_neg c1] at hg
      split
      · exact ⟨fun _ => rfl, fun q => by cases q⟩
      rename_i c2
      rw [if_neg c2] at hg
      split
      · exact ⟨fun _ => rfl, fun q => by cases q⟩
      rename_i c3
      rw [if_neg c3] at hg
      refine ⟨fun q => absurd rfl q, fun _ => near_rem h ?_ hg⟩
      obtain ⟨k, x, gx, ei, en, hlt⟩ := has_at (by simpa using c1)
      obtain ⟨r1, r2, p, y, hp, gy, gy2, p2, p3, p4⟩ := rem_good h gx (by rw [ei]; exact c2) (by rw [ei]; exact Classical.not_not.1 c3)
      rw [ei] at p3
      rw [en, p3]
      show y.id ≠ id
      have := good_asc h hp gy gx
      omega
    · rename_i k2
      rw [if_neg k2] at hg
      split
      · rename_i k3
        rw [if_pos k3] at hg
        unfold writeF at hg ⊢
        split
        · exact ⟨fun _ => rfl, fun q => absurd q (by assumption)⟩
        rename_i c1
        rw [if_neg c1] at hg
        split
        · exact ⟨fun _ => rfl, fun q => by cases q⟩
        rename_i c2
        rw [if_neg c2] at hg
        split
        · exact ⟨fun _ => rfl, fun q => near_self h⟩
        rename_i c3
        rw [if_neg c3] at hg
        split
        · exact ⟨fun _ => rfl, fun q => by cases q⟩
        rename_i c4
        rw [if_neg c4] at hg
        exact ⟨fun q => absurd rfl q, fun _ => near_with h hg⟩
      · rename_i k3
        rw [if_neg k3] at hg
        split
        · rename_i k4
          rw [if_pos k4] at hg
          unfold resizeF at hg ⊢
          split
          · exact ⟨fun _ => rfl, fun q => absurd q (by assumption)⟩
          rename_i c1
          rw [if_neg c1] at hg
          split
          · exact ⟨fun _ => rfl, fun q => by cases q⟩
          rename_i c2
          rw [if_neg c2] at hg
          split
          · exact ⟨fun _ => rfl, fun q => by cases q⟩
          rename_i c3
          rw [if_neg c3] at hg
          split
          · exact ⟨fun _ => rfl, fun q => near_self h⟩
          rename_i c4
          rw [if_neg c4] at hg
          exact ⟨fun q => absurd rfl q, fun _ => near_with h hg⟩
        · rename_i k4
          rw [if_neg k4] at hg
          split
          · rename_i k5
            rw [if_pos k5] at hg
            unfold renameF at hg ⊢
            split
            · exact ⟨fun _ => rfl, fun q => by cases q⟩
            rename_i c1
            rw [if_neg c1] at hg
            split
            · exact ⟨fun _ => rfl, fun q => by cases q⟩
            rename_i c2
            rw [if_neg c2] at hg
            split
            · exact ⟨fun _ => rfl, fun q => by cases q⟩
            rename_i c3
            rw [if_neg c3] at hg
            split
            · exact ⟨fun _ => rfl, fun q => near_self h⟩
            rename_i c4
            rw [if_neg c4] at hg
            split
            · exact ⟨fun _ => rfl, fun q => by cases q⟩
            rename_i c5
            rw [if_neg c5] at hg
            exact ⟨fun q => absurd rfl q, fun _ => near_with2 h hg⟩
          · rename_i k5
            rw [if_neg k5] at hg
            unfold attrsF at hg ⊢
            split
            · exact ⟨fun _ => rfl, fun q => by cases q⟩
            rename_i c1
            rw [if_neg c1] at hg
            split
            · exact ⟨fun _ => rfl, fun q => by cases q⟩
            rename_i c2
            rw [if_neg c2] at hg
            split
            · exact ⟨fun _ => rfl, fun q => by cases q⟩
            rename_i c3
            rw [if_neg c3] at hg
            exact ⟨fun q => absurd rfl q, fun _ => near_with h hg⟩
end Go.Proofs.Ytepehbbagbfmcaa
namespace Go.Proofs.Ytepehbbagbfmcaa
open Go.RowKit
set_option maxRecDepth 100000
set_option linter.unusedVariables false
set_option linter.unusedSimpArgs false
theorem flt_yes {l : List Node} {p : Node → Bool} {k : Nat} {f : Node} (gf : l[k]? = some f) (h : p f = true) : ((l.take (k + 1)).filter p).length = ((l.take k).filter p).length + 1 := by
  obtain ⟨hk, rfl⟩ := List.getElem?_eq_some_iff.1 gf
  rw [List.take_succ_eq_append_getElem hk, List.filter_append]
  simp [h]
theorem flt_no {l : List Node} {p : Node → Bool} {k : Nat} {f : Node} (gf : l[k]? = some f) (h : p f = false) : ((l.take (k + 1)).filter p).length = ((l.take k).filter p).length := by
  obtain ⟨hk, rfl⟩ := List.getElem?_eq_some_iff.1 gf
  rw [List.take_succ_eq_append_getElem hk, List.filter_append]
  simp [h]
theorem flt_le (l : List Node) (p : Node → Bool) (k : Nat) : ((l.take k).filter p).length ≤ k := Nat.le_trans (List.length_filter_le _ _) (by rw [List.length_take]; omega)
theorem node_eq {x y : Node} (h : (decide (x.id = y.id) && (decide (x.par = y.par) && (decide (x.vers = y.vers) && (strEq x.name y.name && (decide (x.mode = y.mode) && (strEq x.uid y.uid && (strEq x.gid y.gid && (strEq x.muid y.muid && (decide (x.atime = y.atime) && (decide (x.mtime = y.mtime) && (strEq x.data y.data && true))))))))))) = true) : x = y := by
  cases x; cases y
  simp only [Bool.and_eq_true, decide_eq_true_eq, strEq, beq_iff_eq, and_true] at h
  obtain ⟨rfl, rfl, rfl, rfl, rfl, rfl, rfl, rfl, rfl, rfl, rfl⟩ := h
  rfl
theorem ids_says {n : Int} {l : List Node} {o : Op} (hs : shortL l) (hf : fitL l) (ho : o.size ≤ 9223372036854775807 ∧ o.mode ≤ 9223372036854775807 ∧ o.name.length ≤ 9223372036854775807) : Says 10 [.agg [.int .i64 n, .lst (nodeV l)], .agg o.v] := by
  obtain ⟨kind, s, name, mode, uid, gid, off, data, now⟩ := o
  refine run_of (lp := lpOf [(8, iaL fun _ _ x m => ∃ k : Nat, x.i = (k : Int) ∧ k + m = l.length ∧ x.ch = (((l.take k).filter (chB (callF n l kind s name mode uid gid off data now).1.2)).length : Int) ∧ x.go = (((l.take k).filter (goB (callF n l kind s name mode uid gid off data now).1.2)).length : Int)),
      (17, ibL fun _ _ x m => ∃ k : Nat, x.i = (k : Int) ∧ k + m = (callF n l kind s name mode uid gid off data now).1.2.length)]) (ct := ctOf [(15, smallCon), (20, lightCon), (11, okCon), (17, rightCon), (31, didCon), (12, sameCon), (21, nodeCon)]) (by omega)
    (fun k hk => ctOf_ok (ctOf_cons (small_con (by omega)) (ctOf_cons (light_con (by omega)) (ctOf_cons (ok_con (by omega)) (ctOf_cons (rr_con (by omega)) (ctOf_cons (did_con (by omega)) (ctOf_cons (same_con (by omega)) (ctOf_cons (rno_con (by omega)) (ctOf_nil _))))))))) ?_
  refine cast (lid_vc n (nodeV l) kind s name mode uid gid off data now _ _ fun r out => r = .bool true ∧ out = []).symm ?_
  have tt : (V.bool true = V.bool true ∧ ([] : List Bk) = []) := ⟨rfl, rfl⟩
  refine ⟨l, rfl, hs, br_iff.2 ⟨fun _ => tt, fun _ => br_iff.2 ⟨fun _ => tt, fun g2 => ⟨l, rfl, hf, br_iff.2 ⟨fun _ => tt, fun g3 => ?_⟩⟩⟩⟩⟩
  have hg : goodT n l := by simpa [notB, rightT_t] using g3
  have hb : l.length ≤ 1024 := hg.2.1
  have hl : data.length ≤ 70000 := by
    have : lightT data name uid gid = true := by simpa [notB] using g2
    exact (of_decide_eq_true this).1
  have cg := call_good hg (kind := kind) (id := s) (name := name) (mode := mode) (uid := uid) (gid := gid) (size := off) (data := data) (now := now)
  obtain ⟨cn1, cn2⟩ := call_near hg (kind := kind) (id := s) (name := name) (mode := mode) (uid := uid) (gid := gid) (size := off) (data := data) (now := now)
  refine ⟨l, rfl, hg, ho.1, ho.2.1, ho.2.2, by omega, br_iff.2 ⟨fun g => ?_, fun g => ?_⟩⟩
  · simp only [br_iff, need_iff, andB_t, andB_f, orB_t, orB_f, notB_t, notB_f, leI_t, leI_f, ltI_t, ltI_f, eqI_t, eqI_f, leN_t, leN_f, eqN_t, eqN_f, eqS_t, eqS_f, eqB_t, eqB_f, catOk_t, leC_t] at g
    have e := cn1 g
    exact ⟨l, rfl, by rw [e], by rw [e], by omega, tt⟩
  simp only [br_iff, need_iff, andB_t, andB_f, orB_t, orB_f, notB_t, notB_f, leI_t, leI_f, ltI_t, ltI_f, eqI_t, eqI_f, leN_t, leN_f, eqN_t, eqN_f, eqS_t, eqS_f, eqB_t, eqB_f, catOk_t, leC_t] at g
  have nr := cn2 g
  unfold lid_vc_1
  clear cn1 cn2 g
  generalize (callF n l kind s name mode uid gid off data now).1.2 = u at cg nr ⊢
  generalize (callF n l kind s name mode uid gid off data now).1.1 = n' at cg nr ⊢
  have hub : u.length ≤ 1024 := cg.2.1
  obtain ⟨q1, q2, q3, q4, q5⟩ := nr
  simp only [nodeV_lenL]
  refine ⟨⟨l.length, by omega, 0, rfl, by omega, rfl, rfl⟩, ?_⟩
  rintro ⟨ch, go, i⟩ m ⟨k, hi, hk, e1, e2⟩
  dsimp only at hi e1 e2 ⊢
  subst hi e1 e2
  have hc1 := flt_le l (chB u) k
  have hc2 := flt_le l (goB u) k
  rw [br_iff]
  refine ⟨fun hlt => ?_, fun hge => ?_⟩
  · have hlt : k < l.length := by simp only [br_iff, need_iff, andB_t, andB_f, orB_t, orB_f, notB_t, notB_f, leI_t, leI_f, ltI_t, ltI_f, eqI_t, eqI_f, leN_t, leN_f, eqN_t, eqN_f, eqS_t, eqS_f, eqB_t, eqB_f, catOk_t, leC_t] at hlt; omega
    have step : addI .i64 (k : Int) 1 = ((k + 1 : Nat) : Int) := by rw [addI_i64 (by omega) (by omega)]; omega
    have gf : l[k]? = some l[k] := List.getElem?_eq_getElem hlt
    generalize l[k] = f at gf
    have rf := nodeV_row gf
    have kf : okRow (nodeV l) (Int.toNat (k : Int)) 11 = true := by simpa using nodeV_ok (l := l) (i := k) hlt
    have nf : andB (leI 0 (k : Int)) (ltI (k : Int) (l.length : Int)) = true := by simp only [br_iff, need_iff, andB_t, andB_f, orB_t, orB_f, notB_t, notB_f, leI_t, leI_f, ltI_t, ltI_f, eqI_t, eqI_f, leN_t, leN_f, eqN_t, eqN_f, eqS_t, eqS_f, eqB_t, eqB_f, catOk_t, leC_t]; omega
    rw [need_iff, need_iff]
    refine ⟨nf, kf, ?_⟩
    try rw [rf]
    repeat apply Exists.intro
    refine ⟨rfl, ?_⟩
    refine ⟨u, rfl, by omega, br_iff.2 ⟨fun g => ⟨by trivial, m - 1, by omega, k + 1, step, by omega, ?_, ?_⟩, fun g => ?_⟩⟩
    · simp only [br_iff, need_iff, andB_t, andB_f, orB_t, orB_f, notB_t, notB_f, leI_t, leI_f, ltI_t, ltI_f, eqI_t, eqI_f, leN_t, leN_f, eqN_t, eqN_f, eqS_t, eqS_f, eqB_t, eqB_f, catOk_t, leC_t] at g
      have : chB u f = false := by rw [← Bool.not_eq_true, chB_t]; simp [g]
      rw [flt_no gf this]
    · simp only [br_iff, need_iff, andB_t, andB_f, orB_t, orB_f, notB_t, notB_f, leI_t, leI_f, ltI_t, ltI_f, eqI_t, eqI_f, leN_t, leN_f, eqN_t, eqN_f, eqS_t, eqS_f, eqB_t, eqB_f, catOk_t, leC_t] at g
      have : goB u f = true := by simp [goB, g]
      rw [flt_yes gf this, addI_i64 (by omega) (by omega)]; omega
    · skip
      rw [need_iff, need_iff]
      refine ⟨nf, kf, ?_⟩
      try rw [rf]
      repeat apply Exists.intro
      refine ⟨rfl, ?_⟩
      have gg : hasB u f.id = true := by simpa [notB] using g
      have g0 : goB u f = false := by simp [goB, gg]
      by_cases hx : nodeF u f.id = f
      · refine br_iff.2 ⟨fun g => absurd g (by rw [hx]; simp [strEq]), fun _ => ⟨by trivial, m - 1, by omega, k + 1, step, by omega, ?_, ?_⟩⟩
        · have : chB u f = false := by rw [← Bool.not_eq_true, chB_t]; simp [hx]
          rw [flt_no gf this]
        · rw [flt_no gf g0]
      · refine br_iff.2 ⟨fun _ => ⟨by trivial, m - 1, by omega, k + 1, step, by omega, ?_, ?_⟩, fun g => absurd (node_eq (by simpa only [Bool.not_eq_false'] using g)) hx⟩
        · have : chB u f = true := by rw [chB_t]; exact ⟨gg, hx⟩
          rw [flt_yes gf this, addI_i64 (by omega) (by omega)]; omega
        · rw [flt_no gf g0]
  · have : k = l.length := by simp only [br_iff, need_iff, andB_t, andB_f, orB_t, orB_f, notB_t, notB_f, leI_t, leI_f, ltI_t, ltI_f, eqI_t, eqI_f, leN_t, leN_f, eqN_t, eqN_f, eqS_t, eqS_f, eqB_t, eqB_f, catOk_t, leC_t] at hge; omega
    subst this
    rw [List.take_length] at hc1 hc2 ⊢
    refine ⟨⟨u.length, by omega, 0, rfl, by omega⟩, ?_⟩
    rintro ⟨i⟩ m2 ⟨j, hi, hj⟩
    dsimp only at hi ⊢
    subst hi
    rw [br_iff]
    refine ⟨fun hlt => ?_, fun hge => ?_⟩
    · have hlt : j < u.length := by simp only [br_iff, need_iff, andB_t, andB_f, orB_t, orB_f, notB_t, notB_f, leI_t, leI_f, ltI_t, ltI_f, eqI_t, eqI_f, leN_t, leN_f, eqN_t, eqN_f, eqS_t, eqS_f, eqB_t, eqB_f, catOk_t, leC_t] at hlt; omega
      have step : addI .i64 (j : Int) 1 = ((j + 1 : Nat) : Int) := by rw [addI_i64 (by omega) (by omega)]; omega
      have gv : u[j]? = some u[j] := List.getElem?_eq_getElem hlt
      generalize u[j] = v at gv
      have rv := nodeV_row gv
      have kv : okRow (nodeV u) (Int.toNat (j : Int)) 11 = true := by simpa using nodeV_ok (l := u) (i := j) hlt
      have nv : andB (leI 0 (j : Int)) (ltI (j : Int) (u.length : Int)) = true := by simp only [br_iff, need_iff, andB_t, andB_f, orB_t, orB_f, notB_t, notB_f, leI_t, leI_f, ltI_t, ltI_f, eqI_t, eqI_f, leN_t, leN_f, eqN_t, eqN_f, eqS_t, eqS_f, eqB_t, eqB_f, catOk_t, leC_t]; omega
      rw [need_iff, need_iff]
      refine ⟨nv, kv, ?_⟩
      try rw [rv]
      repeat apply Exists.intro
      refine ⟨rfl, ?_⟩
      refine ⟨l, rfl, by omega, br_iff.2 ⟨fun g => ?_, fun g => ⟨by trivial, m2 - 1, by omega, j + 1, step, by omega⟩⟩⟩
      rw [need_iff, need_iff]
      refine ⟨nv, kv, ?_⟩
      try rw [rv]
      repeat apply Exists.intro
      refine ⟨rfl, ?_⟩
      refine br_iff.2 ⟨fun g2 => ?_, fun _ => ⟨by trivial, m2 - 1, by omega, j + 1, step, by omega⟩⟩
      simp only [br_iff, need_iff, andB_t, andB_f, orB_t, orB_f, notB_t, notB_f, leI_t, leI_f, ltI_t, ltI_f, eqI_t, eqI_f, leN_t, leN_f, eqN_t, eqN_f, eqS_t, eqS_f, eqB_t, eqB_f, catOk_t, leC_t] at g g2
      rcases q3 v (List.mem_of_getElem? gv) with q | q
      · exact absurd q g2
      · rw [q] at g; cases g
    · have tu : True ∧ True := ⟨trivial, trivial⟩
      refine br_iff.2 ⟨fun _ => br_iff.2 ⟨fun _ => br_iff.2 ⟨fun _ => br_iff.2 ⟨fun _ => tu, fun g => ?_⟩, fun g => ?_⟩, fun g => ?_⟩, fun g => ?_⟩
      · rw [addI_i64 (by omega) (by omega)] at g
        simp only [br_iff, need_iff, andB_t, andB_f, orB_t, orB_f, notB_t, notB_f, leI_t, leI_f, ltI_t, ltI_f, eqI_t, eqI_f, leN_t, leN_f, eqN_t, eqN_f, eqS_t, eqS_f, eqB_t, eqB_f, catOk_t, leC_t] at g; omega
      · simp only [br_iff, need_iff, andB_t, andB_f, orB_t, orB_f, notB_t, notB_f, leI_t, leI_f, ltI_t, ltI_f, eqI_t, eqI_f, leN_t, leN_f, eqN_t, eqN_f, eqS_t, eqS_f, eqB_t, eqB_f, catOk_t, leC_t] at g; omega
      · simp only [br_iff, need_iff, andB_t, andB_f, orB_t, orB_f, notB_t, notB_f, leI_t, leI_f, ltI_t, ltI_f, eqI_t, eqI_f, leN_t, leN_f, eqN_t, eqN_f, eqS_t, eqS_f, eqB_t, eqB_f, catOk_t, leC_t] at g; omega
      · simp only [br_iff, need_iff, andB_t, andB_f, orB_t, orB_f, notB_t, notB_f, leI_t, leI_f, ltI_t, ltI_f, eqI_t, eqI_f, leN_t, leN_f, eqN_t, eqN_f, eqS_t, eqS_f, eqB_t, eqB_f, catOk_t, leC_t] at g; omega
theorem ids_fits {us : List V} (h : FitsAll treeOpSh us) : Says 10 us := by
  obtain ⟨v0, r0, rfl, h0, v1, r1, rfl, h1, rfl⟩ := h
  obtain ⟨n, l, rfl, hn, hs, hf, _⟩ := tree_fits h0
  obtain ⟨o, rfl, ho⟩ := op_fits h1
  exact ids_says hs hf (op_le ho)
end Go.Proofs.Ytepehbbagbfmcaa
