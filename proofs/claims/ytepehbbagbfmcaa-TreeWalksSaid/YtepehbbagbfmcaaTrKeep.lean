/- Trees: what calls keep. -/
import Derived.Test.YtepehbbagbfmcaaTrLaws
namespace Go.Proofs.Ytepehbbagbfmcaa
open Go.RowKit
set_option maxRecDepth 100000
set_option linter.unusedVariables false
set_option linter.unusedSimpArgs false
theorem set_at {l : List Node} {k j : Nat} {y z : Node} (hk : k < l.length) (h : (l.set k y)[j]? = some z) : (j = k ∧ z = y) ∨ (j ≠ k ∧ l[j]? = some z) := by
  rw [List.getElem?_set] at h
  by_cases q : k = j
  · rw [if_pos q, if_pos hk] at h
    exact .inl ⟨q.symm, (Option.some.inj h).symm⟩
  · rw [if_neg q] at h
    exact .inr ⟨fun e => q e.symm, h⟩
theorem at_set {l : List Node} {k j : Nat} {y x z : Node} (gx : l[k]? = some x) (h : l[j]? = some z) : ∃ w, (l.set k y)[j]? = some w ∧ ((j = k ∧ w = y ∧ z = x) ∨ (j ≠ k ∧ w = z)) := by
  have hk := (List.getElem?_eq_some_iff.1 gx).1
  by_cases q : j = k
  · subst q
    exact ⟨y, by rw [List.getElem?_set_self hk], .inl ⟨rfl, rfl, Option.some.inj (h.symm.trans gx)⟩⟩
  · exact ⟨z, by rw [List.getElem?_set_ne (fun e => q e.symm)]; exact h, .inr ⟨q, rfl⟩⟩
theorem good_set {n : Int} {l : List Node} (h : goodT n l) {k : Nat} {x y : Node} (gx : l[k]? = some x) (hs : soundB y = true) (hi : y.id = x.id) (hp : y.par = x.par) (hd : dirB y.mode = dirB x.mode)
    (hn : y.name = x.name ∨ (0 < k ∧ nameB y.name = true ∧ ∀ (j : Nat) (z : Node), 0 < j → j ≠ k → l[j]? = some z → ¬ (z.par = x.par ∧ z.name = y.name))) : goodT n (l.set k y) := by
  have hk := (List.getElem?_eq_some_iff.1 gx).1
  refine ⟨by rw [List.length_set]; exact h.1, by rw [List.length_set]; exact h.2.1, h.2.2.1, fun j z gz => ?_⟩
  -- a node keeps its place's id, parent and kind
  have old : ∀ (j : Nat) (z : Node), (l.set k y)[j]? = some z → ∃ w, l[j]? = some w ∧ z.id = w.id ∧ z.par = w.par ∧ dirB z.mode = dirB w.mode ∧ (j ≠ k → z = w) ∧ (j = k → z = y) := fun j z gz => by
    rcases set_at hk gz with ⟨e1, e2⟩ | ⟨e1, e2⟩
    · subst e1 e2; exact ⟨x, gx, hi, hp, hd, fun q => absurd rfl q, fun _ => rfl⟩
    · exact ⟨z, e2, rfl, rfl, rfl, fun _ => rfl, fun q => absurd q e1⟩
  obtain ⟨w, gw, e1, e2, e3, e4, e5⟩ := old j z gz
  obtain ⟨o1, o2, o3, o4⟩ := h.2.2.2 j w gw
  have nm : ∀ (i : Nat) (v u : Node), 0 < i → (l.set k y)[i]? = some u → i < j → ¬ (u.par = z.par ∧ u.name = z.name) := by
    intro i v u h0 gu hij
    obtain ⟨v', gv, f1, f2, f3, f4, f5⟩ := old i u gu
    have hj : 0 < j := by omega
    have ho := (o4 hj).2.2.1 i v' h0 hij gv
    rw [e2, f2]
    rcases hn with hn | ⟨hk0, _, hn⟩
    · have t1 : u.name = v'.name := by
        by_cases q : i = k
        · rw [f5 q, hn]; subst q; rw [Option.some.inj (gx.symm.trans gv)]
        · rw [f4 q]
      have t2 : z.name = w.name := by
        by_cases q : j = k
        · rw [e5 q, hn]; subst q; rw [Option.some.inj (gx.symm.trans gw)]
        · rw [e4 q]
      rw [t1, t2]; exact ho
    · by_cases q : i = k
      · have q2 : j ≠ k := by omega
        rw [f5 q, e4 q2]
        subst q
        obtain rfl := Option.some.inj (gx.symm.trans gv)
        exact fun c => hn j w (by omega) q2 gw ⟨c.1.symm, c.2.symm⟩
      · rw [f4 q]
        by_cases q2 : j = k
        · rw [e5 q2]
          subst q2
          obtain rfl := Option.some.inj (gx.symm.trans gw)
          exact hn i v' h0 q gv
        · rw [e4 q2]; exact ho
  refine ⟨?_, by rw [e1]; exact o2, fun q => ?_, fun hj => ⟨?_, ?_, fun i u h0 hij gu => nm i u u h0 gu hij, fun i u hij gu => ?_⟩⟩
  · by_cases q : j = k
    · rw [e5 q]; exact hs
    · rw [e4 q]; exact o1
  · obtain ⟨a1, a2, a3, a4⟩ := o3 q
    refine ⟨by rw [e1]; exact a1, by rw [e2]; exact a2, ?_, by rw [e3]; exact a4⟩
    by_cases q2 : j = k
    · rw [e5 q2]
      rcases hn with hn | ⟨hk0, _⟩
      · rw [hn]; subst q2; rw [Option.some.inj (gx.symm.trans gw)]; exact a3
      · omega
    · rw [e4 q2]; exact a3
  · by_cases q2 : j = k
    · rw [e5 q2]
      rcases hn with hn | ⟨_, hn, _⟩
      · rw [hn]; subst q2; rw [Option.some.inj (gx.symm.trans gw)]; exact (o4 hj).1
      · exact hn
    · rw [e4 q2]; exact (o4 hj).1
  · obtain ⟨i, v, hij, gv, f1, f2⟩ := (o4 hj).2.1
    obtain ⟨u, gu, hu⟩ := at_set (y := y) gx gv
    refine ⟨i, u, hij, gu, ?_, ?_⟩
    · rw [e2, ← f1]
      rcases hu with ⟨_, r1, r2⟩ | ⟨_, r1⟩
      · rw [r1, r2, hi]
      · rw [r1]
    · rcases hu with ⟨_, r1, r2⟩ | ⟨_, r1⟩
      · rw [r1, hd, ← r2]; exact f2
      · rw [r1]; exact f2
  · obtain ⟨v, gv, f1, _⟩ := old i u gu
    rw [f1, e1]
    exact (o4 hj).2.2.2 i v hij gv
theorem clock_ok (t : Int) : 0 ≤ clockF t ∧ clockF t ≤ 1099511627776 := by
  unfold clockF; omega
theorem short_ok (s : List UInt8) : (shortF s).length ≤ 64 := by
  unfold shortF; split
  · assumption
  · simp
theorem sound_touch {x : Node} (uid : List UInt8) (now : Int) (h : soundB x = true) : soundB (touchF x uid now) = true := by
  obtain ⟨h1, h2, h3, h4, h5, h6, h7, h8, h9, h10, h11, h12⟩ := sound_iff.1 h
  have hc := clock_ok now
  refine sound_iff.2 ⟨h1, ?_, ?_, h4, h5, hc.1, hc.2, h8, h9, short_ok uid, h11, h12⟩ <;> unfold touchF <;> dsimp only <;> split <;> omega
theorem good_touch {n : Int} {l : List Node} (h : goodT n l) {k : Nat} {x y : Node} (gx : l[k]? = some x) (hs : soundB y = true) (uid : List UInt8) (now : Int) (hi : y.id = x.id) (hp : y.par = x.par) (hd : dirB y.mode = dirB x.mode) (hn : y.name = x.name) : goodT n (withF l (touchF y uid now)) := by
  rw [with_set h gx (y := touchF y uid now) hi]
  exact good_set h gx (sound_touch uid now hs) hi hp hd (.inl hn)
theorem off_ok {n : Int} {l : List Node} (h : goodT n l) {k : Nat} {x : Node} (gx : l[k]? = some x) {off : Int} (ho : 0 ≤ off) : 0 ≤ offF x off := by
  unfold offF; split <;> omega
theorem wtext_len (old : List UInt8) (off : Nat) (data : List UInt8) (h : old.length ≤ 65536) (h2 : off + data.length ≤ 65536) : (wtextF old off data).length ≤ 65536 := by
  unfold wtextF
  simp only [List.length_append, List.length_drop, fit_len]
  omega
theorem write_good {n : Int} {l : List Node} (h : goodT n l) {s off : Int} {data uid : List UInt8} {now : Int} : goodT (writeF n l s off data uid now).1.1 (writeF n l s off data uid now).1.2 := by
  unfold writeF
  split
  · exact h
  · rename_i g1
    split
    · exact h
    · rename_i g2
      split
      · exact h
      · split
        · exact h
        · rename_i g4
          obtain ⟨k, x, gx, _, en, _, _, _, hd, _⟩ := file_at (by simpa using g1)
          rw [en] at g4 ⊢
          have hv := (h.2.2.2 k x gx).1
          obtain ⟨h1, h2, h3, h4, h5, h6, h7, h8, h9, h10, h11, h12⟩ := sound_iff.1 hv
          have hof := off_ok h gx (off := off) (by omega)
          refine good_touch (y := { x with data := wtextF x.data (offF x off).toNat data }) h gx (sound_iff.2 ⟨h1, h2, h3, h4, h5, h6, h7, h8, h9, h10, ?_, ?_⟩) uid now rfl rfl rfl rfl
          · exact wtext_len _ _ _ h11 (by omega)
          · intro q; rw [show dirB x.mode = true from q] at hd; cases hd
theorem resize_good {n : Int} {l : List Node} (h : goodT n l) {s len : Int} {uid : List UInt8} {now : Int} : goodT (resizeF n l s len uid now).1.1 (resizeF n l s len uid now).1.2 := by
  unfold resizeF
  split
  · exact h
  · rename_i g1
    split
    · exact h
    · rename_i g2
      split
      · exact h
      · split
        · exact h
        · rename_i g4
          obtain ⟨k, x, gx, _, en, _, _, _, hd, _⟩ := file_at (by simpa using g1)
          rw [en] at g4 ⊢
          have hv := (h.2.2.2 k x gx).1
          obtain ⟨h1, h2, h3, h4, h5, h6, h7, h8, h9, h10, h11, h12⟩ := sound_iff.1 hv
          refine good_touch (y := { x with data := fitF x.data len.toNat }) h gx (sound_iff.2 ⟨h1, h2, h3, h4, h5, h6, h7, h8, h9, h10, ?_, ?_⟩) uid now rfl rfl rfl rfl
          · show (fitF x.data len.toNat).length ≤ 65536
            rw [fit_len]; omega
          · intro q; rw [show dirB x.mode = true from q] at hd; cases hd
end Go.Proofs.Ytepehbbagbfmcaa
namespace Go.Proofs.Ytepehbbagbfmcaa
open Go.RowKit
set_option maxRecDepth 100000
set_option linter.unusedVariables false
set_option linter.unusedSimpArgs false
def lightT (data name uid gid : List UInt8) : Bool := decide (data.length ≤ 70000 ∧ name.length ≤ 1000 ∧ uid.length ≤ 1000 ∧ gid.length ≤ 1000)

def lightCon : Con := fun vs bs K => match vs, bs with
  | [.agg [.int .i64 kind, .int .i64 id, .str name, .int .i64 mode, .str uid, .str gid, .int .i64 size, .str data, .int .i64 now]], [] => K (.bool (lightT data name uid gid)) []
  | _, _ => False

theorem li_vc (kind id : Int) (name : List UInt8) (mode : Int) (uid gid : List UInt8) (size : Int) (data : List UInt8) (now : Int) (K : V → List Bk → Prop) : vcF Try.prog cfgN (ctOf []) (lpOf []) 20 [.agg [.int .i64 kind, .int .i64 id, .str name, .int .i64 mode, .str uid, .str gid, .int .i64 size, .str data, .int .i64 now]] [] K = (
  br (leI (lenS data) 70000) (
    br (leI (lenS name) 1000) (
      br (leI (lenS uid) 1000) (
        K (V.bool (leI (lenS gid) 1000)) []) (
        K (V.bool false) [])) (
      K (V.bool false) [])) (
    K (V.bool false) [])) := by kernel_rfl

def lwr_vc_1 (next : Int) (xs : List (List V)) (kind id : Int) (name : List UInt8) (mode : Int) (uid gid : List UInt8) (size : Int) (data : List UInt8) (now : Int) (K : V → List Bk → Prop) (l14 : List Node) (l15 : List Node) : Prop :=
  (
                br (notB (hasB l14 id)) (
                  K (V.bool false) []) (
                  br (notB (eqI (writeF next l15 id size data uid now).snd.1 (lenS data))) (
                    K (V.bool false) []) (
                    br (ltI size 0) (
                      K (V.bool false) []) (
                      br (ltI 65536 size) (
                        K (V.bool false) []) (
                        ∃ l16 : List Node, ((nodeV (writeF next l15 id size data uid now).fst.2 : List (List V)) = nodeV l16) ∧ (
                        (goodT (writeF next l15 id size data uid now).fst.1 l16) ∧ (
                        (((size : Int) ≤ 9223372036854775807)) ∧ (
                        ((((writeF next l15 id size data uid now).snd.1 : Int) ≤ 9223372036854775807)) ∧ (
                        ∃ l17 : List Node, ((nodeV (writeF next l15 id size data uid now).fst.2 : List (List V)) = nodeV l17) ∧ (
                        (goodT (writeF next l15 id size data uid now).fst.1 l17) ∧ (
                        (((0 : Int) ≤ 9223372036854775807)) ∧ (
                        (((minI size (lenS (nodeF l14 id).11) : Int) ≤ 9223372036854775807)) ∧ (
                        br (notB (eqI (readF l16 id size (writeF next l15 id size data uid now).snd.fst).2 0)) (
                          K (V.bool false) []) (
                          br (notB (eqI (readF l17 id 0 (minI size (lenS (nodeF l14 id).data))).2 0)) (
                            K (V.bool false) []) (
                            br (notB (eqS (readF l16 id size (writeF next l15 id size data uid now).snd.fst).1 data)) (
                              K (V.bool false) []) (
                              need (andB (leI 0 (minI size (lenS (nodeF l14 id).11))) (leI (minI size (lenS (nodeF l14 id).11)) (lenS (nodeF l14 id).11))) (
                              br (notB (eqS (readF l17 id 0 (minI size (lenS (nodeF l14 id).data))).1 (cutS (nodeF l14 id).11 0 (minI size (lenS (nodeF l14 id).11))))) (
                                K (V.bool false) []) (
                                ∃ l18 : List Node, ((nodeV (writeF next l15 id size data uid now).fst.2 : List (List V)) = nodeV l18) ∧ (
                                (goodT (writeF next l15 id size data uid now).fst.1 l18) ∧ (
                                (((addI IntKind.i64 size (writeF next l15 id size data uid now).snd.1 : Int) ≤ 9223372036854775807)) ∧ (
                                (((65536 : Int) ≤ 9223372036854775807)) ∧ (
                                br (eqI (readF l18 id (addI IntKind.i64 size (writeF next l15 id size data uid now).snd.fst) 65536).2 0) (
                                  need (andB (leI 0 (minI (addI IntKind.i64 size (writeF next l15 id size data uid now).snd.1) (lenS (nodeF l14 id).11))) (leI (minI (addI IntKind.i64 size (writeF next l15 id size data uid now).snd.1) (lenS (nodeF l14 id).11)) (lenS (nodeF l14 id).11))) (
                                  br (eqS (readF l18 id (addI IntKind.i64 size (writeF next l15 id size data uid now).snd.fst) 65536).1 (cutS (nodeF l14 id).11 (minI (addI IntKind.i64 size (writeF next l15 id size data uid now).snd.1) (lenS (nodeF l14 id).11)) (lenS (nodeF l14 id).11))) (
                                    K (V.bool true) []) (
                                    K (V.bool false) []))) (
                                  K (V.bool false) [])))))))))))))))))))))))
theorem lwr_vc (next : Int) (xs : List (List V)) (kind id : Int) (name : List UInt8) (mode : Int) (uid gid : List UInt8) (size : Int) (data : List UInt8) (now : Int) (K : V → List Bk → Prop) : vcF Try.prog cfgN (ctOf [(15, smallCon), (20, lightCon), (11, okCon), (17, rightCon), (21, nodeCon), (22, writeCon), (18, readCon)]) (lpOf []) 6 [.agg [.int .i64 next, .lst xs], .agg [.int .i64 kind, .int .i64 id, .str name, .int .i64 mode, .str uid, .str gid, .int .i64 size, .str data, .int .i64 now]] [] K = (
  ∃ l12 : List Node, ((xs : List (List V)) = nodeV l12) ∧ (
  (shortL l12) ∧ (
  br (notB (smallT l12)) (
    K (V.bool true) []) (
    br (notB (lightT data name uid gid)) (
      K (V.bool true) []) (
      ∃ l13 : List Node, ((xs : List (List V)) = nodeV l13) ∧ (
      (fitL l13) ∧ (
      br (notB (rightT next l13)) (
        K (V.bool true) []) (
        br (eqS data []) (
          K (V.bool true) []) (
          ∃ l14 : List Node, ((xs : List (List V)) = nodeV l14) ∧ (
          (((l14.length : Nat) ≤ 100000)) ∧ (
          ∃ l15 : List Node, ((xs : List (List V)) = nodeV l15) ∧ (
          (goodT next l15) ∧ (
          (((size : Int) ≤ 9223372036854775807)) ∧ (
          (((data.length : Nat) ≤ 1000000)) ∧ (
          br (notB (eqI (writeF next l15 id size data uid now).snd.2 0)) (
            K (V.bool true) []) (
            br (hasB l14 id) (
              br (eqI ((quoI IntKind.i64 (nodeF l14 id).5 1073741824).tmod 2) 1) (
                br (notB (hasB l14 id)) (
                  K (V.bool false) []) (
                  br (notB (eqI (writeF next l15 id size data uid now).snd.1 (lenS data))) (
                    K (V.bool false) []) (
                    br (ltI 65536 (lenS (nodeF l14 id).11)) (
                      K (V.bool false) []) (
                      ∃ l16 : List Node, ((nodeV (writeF next l15 id size data uid now).fst.2 : List (List V)) = nodeV l16) ∧ (
                      (goodT (writeF next l15 id size data uid now).fst.1 l16) ∧ (
                      (((lenS (nodeF l14 id).11 : Int) ≤ 9223372036854775807)) ∧ (
                      ((((writeF next l15 id size data uid now).snd.1 : Int) ≤ 9223372036854775807)) ∧ (
                      ∃ l17 : List Node, ((nodeV (writeF next l15 id size data uid now).fst.2 : List (List V)) = nodeV l17) ∧ (
                      (goodT (writeF next l15 id size data uid now).fst.1 l17) ∧ (
                      (((0 : Int) ≤ 9223372036854775807)) ∧ (
                      (((minI (lenS (nodeF l14 id).11) (lenS (nodeF l14 id).11) : Int) ≤ 9223372036854775807)) ∧ (
                      br (notB (eqI (readF l16 id (lenS (nodeF l14 id).data) (writeF next l15 id size data uid now).snd.fst).2 0)) (
                        K (V.bool false) []) (
                        br (notB (eqI (readF l17 id 0 (minI (lenS (nodeF l14 id).data) (lenS (nodeF l14 id).data))).2 0)) (
                          K (V.bool false) []) (
                          br (notB (eqS (readF l16 id (lenS (nodeF l14 id).data) (writeF next l15 id size data uid now).snd.fst).1 data)) (
                            K (V.bool false) []) (
                            need (andB (leI 0 (minI (lenS (nodeF l14 id).11) (lenS (nodeF l14 id).11))) (leI (minI (lenS (nodeF l14 id).11) (lenS (nodeF l14 id).11)) (lenS (nodeF l14 id).11))) (
                            br (notB (eqS (readF l17 id 0 (minI (lenS (nodeF l14 id).data) (lenS (nodeF l14 id).data))).1 (cutS (nodeF l14 id).11 0 (minI (lenS (nodeF l14 id).11) (lenS (nodeF l14 id).11))))) (
                              K (V.bool false) []) (
                              ∃ l18 : List Node, ((nodeV (writeF next l15 id size data uid now).fst.2 : List (List V)) = nodeV l18) ∧ (
                              (goodT (writeF next l15 id size data uid now).fst.1 l18) ∧ (
                              (((addI IntKind.i64 (lenS (nodeF l14 id).11) (writeF next l15 id size data uid now).snd.1 : Int) ≤ 9223372036854775807)) ∧ (
                              (((65536 : Int) ≤ 9223372036854775807)) ∧ (
                              br (eqI (readF l18 id (addI IntKind.i64 (lenS (nodeF l14 id).data) (writeF next l15 id size data uid now).snd.fst) 65536).2 0) (
                                need (andB (leI 0 (minI (addI IntKind.i64 (lenS (nodeF l14 id).11) (writeF next l15 id size data uid now).snd.1) (lenS (nodeF l14 id).11))) (leI (minI (addI IntKind.i64 (lenS (nodeF l14 id).11) (writeF next l15 id size data uid now).snd.1) (lenS (nodeF l14 id).11)) (lenS (nodeF l14 id).11))) (
                                br (eqS (readF l18 id (addI IntKind.i64 (lenS (nodeF l14 id).data) (writeF next l15 id size data uid now).snd.fst) 65536).1 (cutS (nodeF l14 id).11 (minI (addI IntKind.i64 (lenS (nodeF l14 id).11) (writeF next l15 id size data uid now).snd.1) (lenS (nodeF l14 id).11)) (lenS (nodeF l14 id).11))) (
                                  K (V.bool true) []) (
                                  K (V.bool false) []))) (
                                K (V.bool false) [])))))))))))))))))))))) (lwr_vc_1 next xs kind id name mode uid gid size data now K l14 l15)) (lwr_vc_1 next xs kind id name mode uid gid size data now K l14 l15))))))))))))))))) := by kernel_rfl

end Go.Proofs.Ytepehbbagbfmcaa
namespace Go.Proofs.Ytepehbbagbfmcaa
open Go.RowKit
set_option maxRecDepth 100000
set_option linter.unusedVariables false
set_option linter.unusedSimpArgs false
theorem light_con {n : Nat} (hn : 1 ≤ n) : ConOk (evalF Try.prog cfgN n) 20 lightCon := by
  intro vs bs K h
  unfold lightCon at h
  split at h
  · rename_i kind id name mode uid gid size data now
    refine run_of (lp := lpOf []) hn (fun k _ => noCt_ok _) ?_
    rw [li_vc]
    have yes : lightT data name uid gid = true → K (.bool true) [] := fun q => by rw [q] at h; exact h
    have no : lightT data name uid gid = false → K (.bool false) [] := fun q => by rw [q] at h; exact h
    refine br_iff.2 ⟨fun g1 => br_iff.2 ⟨fun g2 => br_iff.2 ⟨fun g3 => ?_, fun g3 => no ?_⟩, fun g2 => no ?_⟩, fun g1 => no ?_⟩
    · simp only [br_iff, need_iff, andB_t, andB_f, orB_t, orB_f, notB_t, notB_f, leI_t, leI_f, ltI_t, ltI_f, eqI_t, eqI_f, leN_t, leN_f, eqN_t, eqN_f, eqS_t, eqS_f, eqB_t, eqB_f, catOk_t, leC_t, lenS] at g1 g2 g3
      by_cases g4 : gid.length ≤ 1000
      · rw [show leI (lenS gid) 1000 = true by simp only [br_iff, need_iff, andB_t, andB_f, orB_t, orB_f, notB_t, notB_f, leI_t, leI_f, ltI_t, ltI_f, eqI_t, eqI_f, leN_t, leN_f, eqN_t, eqN_f, eqS_t, eqS_f, eqB_t, eqB_f, catOk_t, leC_t, lenS]; omega]
        exact yes (decide_eq_true ⟨by omega, by omega, by omega, g4⟩)
      · rw [show leI (lenS gid) 1000 = false by rw [← Bool.not_eq_true]; simp only [br_iff, need_iff, andB_t, andB_f, orB_t, orB_f, notB_t, notB_f, leI_t, leI_f, ltI_t, ltI_f, eqI_t, eqI_f, leN_t, leN_f, eqN_t, eqN_f, eqS_t, eqS_f, eqB_t, eqB_f, catOk_t, leC_t, lenS]; omega]
        exact no (decide_eq_false fun q => g4 q.2.2.2)
    · simp only [br_iff, need_iff, andB_t, andB_f, orB_t, orB_f, notB_t, notB_f, leI_t, leI_f, ltI_t, ltI_f, eqI_t, eqI_f, leN_t, leN_f, eqN_t, eqN_f, eqS_t, eqS_f, eqB_t, eqB_f, catOk_t, leC_t, lenS] at g3; exact decide_eq_false fun q => by omega
    · simp only [br_iff, need_iff, andB_t, andB_f, orB_t, orB_f, notB_t, notB_f, leI_t, leI_f, ltI_t, ltI_f, eqI_t, eqI_f, leN_t, leN_f, eqN_t, eqN_f, eqS_t, eqS_f, eqB_t, eqB_f, catOk_t, leC_t, lenS] at g2; exact decide_eq_false fun q => by omega
    · simp only [br_iff, need_iff, andB_t, andB_f, orB_t, orB_f, notB_t, notB_f, leI_t, leI_f, ltI_t, ltI_f, eqI_t, eqI_f, leN_t, leN_f, eqN_t, eqN_f, eqS_t, eqS_f, eqB_t, eqB_f, catOk_t, leC_t, lenS] at g1; exact decide_eq_false fun q => by omega
  · exact h.elim
theorem w_mid (old : List UInt8) (o : Nat) (data : List UInt8) : ((wtextF old o data).drop o).take data.length = data := by
  unfold wtextF
  rw [List.append_assoc, List.drop_append_of_le_length (by rw [fit_len]; omega), List.drop_of_length_le (by rw [fit_len]; omega), List.nil_append, List.take_append_of_le_length (by omega), List.take_length]
theorem w_head (old : List UInt8) (o : Nat) (data : List UInt8) : (wtextF old o data).take (min o old.length) = old.take (min o old.length) := by
  unfold wtextF
  rw [List.append_assoc, List.take_append_of_le_length (by rw [fit_len]; omega)]
  unfold fitF
  rw [List.take_append_of_le_length (by rw [List.length_take]; omega), List.take_take]
  congr 1; omega
theorem w_tail (old : List UInt8) (o : Nat) (data : List UInt8) : (wtextF old o data).drop (o + data.length) = old.drop (o + data.length) := by
  unfold wtextF
  have e : (fitF old o ++ data).length = o + data.length := by rw [List.length_append, fit_len]
  rw [List.drop_append_of_le_length (by omega), List.drop_of_length_le (by omega), List.nil_append]
section
variable {u : List Node} {s o : Int} {old data : List UInt8} (hf : fileE u s = 0) (hd : (nodeF u s).data = wtextF old o.toNat data) (h0 : 0 ≤ o) (hold : old.length ≤ 65536) (hlen : o + data.length ≤ 65536)
include hf hd h0 hold hlen
omit hold hlen in
theorem wr_mid : readF u s o (data.length : Int) = (data, 0) := by
  unfold readF
  rw [if_neg (by simp [hf]), if_neg (by omega), hd, Int.toNat_natCast, w_mid]
omit hlen in
theorem wr_head : readF u s 0 (minI o (lenS old)) = (cutS old 0 (minI o (lenS old)), 0) := by
  unfold readF
  rw [if_neg (by simp [hf]), if_neg (by simp only [minI, lenS]; omega), hd]
  unfold cutS
  have e : (minI o (lenS old)).toNat = min o.toNat old.length := by simp only [minI, lenS]; omega
  rw [e, Int.toNat_zero, List.drop_zero, w_head, List.drop_zero, Nat.sub_zero]
theorem wr_tail : readF u s (o + (data.length : Int)) 65536 = (cutS old (minI (o + (data.length : Int)) (lenS old)) (lenS old), 0) := by
  unfold readF
  have e : (o + (data.length : Int)).toNat = o.toNat + data.length := by omega
  rw [if_neg (by simp [hf]), if_neg (by omega), hd, e, w_tail, cut_tail _ (by omega), e, List.take_of_length_le (by rw [List.length_drop]; have : (65536 : Int).toNat = 65536 := rfl; omega)]
end
theorem writes_says {n : Int} {l : List Node} {o : Op} (hs : shortL l) (hf : fitL l) (ho : o.size ≤ 9223372036854775807) : Says 6 [.agg [.int .i64 n, .lst (nodeV l)], .agg o.v] := by
  refine run_of (lp := lpOf []) (ct := ctOf [(15, smallCon), (20, lightCon), (11, okCon), (17, rightCon), (21, nodeCon), (22, writeCon), (18, readCon)]) (by omega)
    (fun k hk => ctOf_ok (ctOf_cons (small_con (by omega)) (ctOf_cons (light_con (by omega)) (ctOf_cons (ok_con (by omega)) (ctOf_cons (rr_con (by omega)) (ctOf_cons (rno_con (by omega)) (ctOf_cons (wr_con (by omega)) (ctOf_cons (rd_con (by omega)) (ctOf_nil _))))))))) ?_
  obtain ⟨kind, s, name, mode, uid, gid, off, data, now⟩ := o
  have goal := lwr_vc n (nodeV l) kind s name mode uid gid off data now fun r out => r = .bool true ∧ out = []
  refine cast goal.symm ?_
  clear goal
  have tt : (V.bool true = V.bool true ∧ ([] : List Bk) = []) := ⟨rfl, rfl⟩
  refine ⟨l, rfl, hs, br_iff.2 ⟨fun _ => tt, fun _ => br_iff.2 ⟨fun _ => tt, fun g2 => ⟨l, rfl, hf, br_iff.2 ⟨fun _ => tt, fun g3 => br_iff.2 ⟨fun _ => tt, fun g4 => ?_⟩⟩⟩⟩⟩⟩
  have hg : goodT n l := by simpa [notB, rightT_t] using g3
  have hb : l.length ≤ 100000 := by have := hg.2.1; omega
  have hl : data.length ≤ 70000 := by
    have : lightT data name uid gid = true := by simpa [notB] using g2
    exact (of_decide_eq_true this).1
  have hne : data ≠ [] := by simp only [br_iff, need_iff, andB_t, andB_f, orB_t, orB_f, notB_t, notB_f, leI_t, leI_f, ltI_t, ltI_f, eqI_t, eqI_f, leN_t, leN_f, eqN_t, eqN_f, eqS_t, eqS_f, eqB_t, eqB_f, catOk_t, leC_t] at g4; exact g4
  refine ⟨l, rfl, hb, l, rfl, hg, ho, by omega, br_iff.2 ⟨fun _ => tt, fun g5 => ?_⟩⟩
  have g6 : (writeF n l s off data uid now).2.2 = 0 := by simpa [notB, eqI] using g5
  have wg := write_good hg (s := s) (off := off) (data := data) (uid := uid) (now := now)
  -- what was written
  have main : ∃ (k : Nat) (x : Node) (u : List Node), l[k]? = some x ∧ nodeF l s = x ∧ hasB l s = true ∧ 0 ≤ offF x off ∧ offF x off + data.length ≤ 65536 ∧ writeF n l s off data uid now = ((n, u), (data.length : Int), 0) ∧ fileE u s = 0 ∧ (nodeF u s).data = wtextF x.data (offF x off).toNat data ∧ 0 ≤ off := by
    by_cases q1 : fileE l s = 0
    · obtain ⟨k, x, gx, e1, en, e2, _, hk, hd, _⟩ := file_at q1
      by_cases q2 : off < 0
      · unfold writeF at g6
        rw [if_neg (by simp [q1]), if_pos q2] at g6; cases g6
      · by_cases q3 : 65536 < offF x off + data.length
        · unfold writeF at g6
          rw [if_neg (by simp [q1]), if_neg q2, if_neg hne, en, if_pos q3] at g6; cases g6
        · have hof := off_ok hg gx (off := off) (by omega)
          have hw : writeF n l s off data uid now = ((n, withF l (touchF { x with data := wtextF x.data (offF x off).toNat data } uid now)), (data.length : Int), 0) := by
            unfold writeF
            rw [if_neg (by simp [q1]), if_neg q2, if_neg hne, en, if_neg q3]
          rw [hw] at wg
          have ws := with_set hg gx (y := touchF { x with data := wtextF x.data (offF x off).toNat data } uid now) rfl
          have gk : (withF l (touchF { x with data := wtextF x.data (offF x off).toNat data } uid now))[k]? = some (touchF { x with data := wtextF x.data (offF x off).toNat data } uid now) := by
            rw [ws, List.getElem?_set_self hk]
          have gn := good_node wg gk
          have gi : (touchF { x with data := wtextF x.data (offF x off).toNat data } uid now).id = s := e1
          rw [gi] at gn
          refine ⟨k, x, _, gx, en, e2, hof, by omega, hw, ?_, by rw [gn.1]; rfl, by omega⟩
          unfold fileE
          rw [if_pos gn.2, gn.1]
          have : dirB (touchF { x with data := wtextF x.data (offF x off).toNat data } uid now).mode = false := hd
          rw [this]; rfl
    · unfold writeF at g6
      rw [if_pos q1] at g6
      exact absurd g6 q1
  obtain ⟨k, x, u, gx, en, hh, h0, h1, hw, hfu, hdu, hoff⟩ := main
  rw [hw] at wg
  have hdl := data_le hg gx
  have hvm := valid_le (good_valid hg gx)
  have m1 := wr_mid hfu hdu h0
  have m2 := wr_head hfu hdu h0 hdl
  have m3 := wr_tail hfu hdu h0 hdl h1
  have happ : eqI ((quoI .i64 x.mode 1073741824).tmod 2) 1 = appB x.mode := by
    rw [quoI_i64 hvm.1 (by omega) (by omega), tmod_pos (by omega)]
    simp [eqI, appB, hvm.1]
  have nb : ∀ {b : Bool} {A B : Prop}, b = true → B → br (notB b) A B := fun h q => by subst h; exact q
  have yb : ∀ {b : Bool} {A B : Prop}, b = true → A → br b A B := fun h q => by subst h; exact q
  have zb : ∀ {b : Bool} {A B : Prop}, b = false → B → br b A B := fun h q => by subst h; exact q
  have ei : ∀ a : Int, eqI a a = true := fun a => by simp [eqI]
  have es : ∀ a : List UInt8, eqS a a = true := fun a => by simp [eqS, strEq]
  unfold lwr_vc_1
  rw [hw, en]
  dsimp only
  refine yb hh ?_
  rw [happ]
  refine br_iff.2 ⟨fun a => ?_, fun a => ?_⟩
  · have ha : offF x off = (x.data.length : Int) := by unfold offF; rw [if_pos a]
    rw [ha] at h0 h1 m1 m2 m3
    refine nb hh (nb (ei _) (zb (by rw [← Bool.not_eq_true]; simp only [br_iff, need_iff, andB_t, andB_f, orB_t, orB_f, notB_t, notB_f, leI_t, leI_f, ltI_t, ltI_f, eqI_t, eqI_f, leN_t, leN_f, eqN_t, eqN_f, eqS_t, eqS_f, eqB_t, eqB_f, catOk_t, leC_t, lenS]; omega) ⟨u, rfl, wg, by simp only [lenS]; omega, by omega, u, rfl, wg, by omega, by simp only [minI, lenS]; omega, nb ?_ (nb ?_ (nb ?_ (need_iff.2 ⟨?_, nb ?_ ⟨u, rfl, wg, ?_, by omega, yb ?_ (need_iff.2 ⟨?_, yb ?_ tt⟩)⟩⟩)))⟩))
    · simp only [lenS]; rw [m1]; rfl
    · simp only [lenS] at m2 ⊢; rw [m2]; rfl
    · simp only [lenS]; rw [m1]; exact es _
    · simp only [br_iff, need_iff, andB_t, andB_f, orB_t, orB_f, notB_t, notB_f, leI_t, leI_f, ltI_t, ltI_f, eqI_t, eqI_f, leN_t, leN_f, eqN_t, eqN_f, eqS_t, eqS_f, eqB_t, eqB_f, catOk_t, leC_t, minI, lenS]; omega
    · simp only [lenS] at m2 ⊢; rw [m2]; exact es _
    · rw [addI_i64 (by simp only [lenS]; omega) (by simp only [lenS]; omega)]; simp only [lenS]; omega
    · rw [addI_i64 (by simp only [lenS]; omega) (by simp only [lenS]; omega)]; simp only [lenS] at m3 ⊢; rw [m3]; rfl
    · rw [addI_i64 (by simp only [lenS]; omega) (by simp only [lenS]; omega)]; simp only [br_iff, need_iff, andB_t, andB_f, orB_t, orB_f, notB_t, notB_f, leI_t, leI_f, ltI_t, ltI_f, eqI_t, eqI_f, leN_t, leN_f, eqN_t, eqN_f, eqS_t, eqS_f, eqB_t, eqB_f, catOk_t, leC_t, minI, lenS]; omega
    · rw [addI_i64 (by simp only [lenS]; omega) (by simp only [lenS]; omega)]; simp only [lenS] at m3 ⊢; rw [m3]; exact es _
  · have ha : offF x off = off := by unfold offF; rw [if_neg (by simp [a])]
    rw [ha] at h0 h1 m1 m2 m3
    refine nb hh (nb (ei _) (zb (by rw [← Bool.not_eq_true]; simp only [br_iff, need_iff, andB_t, andB_f, orB_t, orB_f, notB_t, notB_f, leI_t, leI_f, ltI_t, ltI_f, eqI_t, eqI_f, leN_t, leN_f, eqN_t, eqN_f, eqS_t, eqS_f, eqB_t, eqB_f, catOk_t, leC_t]; omega) (zb (by rw [← Bool.not_eq_true]; simp only [br_iff, need_iff, andB_t, andB_f, orB_t, orB_f, notB_t, notB_f, leI_t, leI_f, ltI_t, ltI_f, eqI_t, eqI_f, leN_t, leN_f, eqN_t, eqN_f, eqS_t, eqS_f, eqB_t, eqB_f, catOk_t, leC_t]; omega) ⟨u, rfl, wg, by omega, by omega, u, rfl, wg, by omega, by simp only [minI, lenS]; omega, nb ?_ (nb ?_ (nb ?_ (need_iff.2 ⟨?_, nb ?_ ⟨u, rfl, wg, ?_, by omega, yb ?_ (need_iff.2 ⟨?_, yb ?_ tt⟩)⟩⟩)))⟩)))
    · rw [m1]; rfl
    · rw [m2]; rfl
    · rw [m1]; exact es _
    · simp only [br_iff, need_iff, andB_t, andB_f, orB_t, orB_f, notB_t, notB_f, leI_t, leI_f, ltI_t, ltI_f, eqI_t, eqI_f, leN_t, leN_f, eqN_t, eqN_f, eqS_t, eqS_f, eqB_t, eqB_f, catOk_t, leC_t, minI, lenS]; omega
    · rw [m2]; exact es _
    · rw [addI_i64 (by omega) (by omega)]; omega
    · rw [addI_i64 (by omega) (by omega), m3]; rfl
    · rw [addI_i64 (by omega) (by omega)]; simp only [br_iff, need_iff, andB_t, andB_f, orB_t, orB_f, notB_t, notB_f, leI_t, leI_f, ltI_t, ltI_f, eqI_t, eqI_f, leN_t, leN_f, eqN_t, eqN_f, eqS_t, eqS_f, eqB_t, eqB_f, catOk_t, leC_t, minI, lenS]; omega
    · rw [addI_i64 (by omega) (by omega), m3]; exact es _
def treeOpSh : List Sh := [treeSh, opSh]
theorem op_fits {v : V} (h : FitsA opSh v) : ∃ o : Op, v = .agg o.v ∧ o.fit := by
  obtain ⟨vs, rfl, h⟩ := h
  obtain ⟨o, rfl, ho⟩ := Op.fits h
  exact ⟨o, rfl, ho⟩
theorem op_le {o : Op} (h : o.fit) : o.size ≤ 9223372036854775807 ∧ o.mode ≤ 9223372036854775807 ∧ o.name.length ≤ 9223372036854775807 := by
  have hm : IntKind.i64.max = 9223372036854775807 := by decide
  unfold Op.fit at h
  obtain ⟨h1, h2, h3, h4, h5, h6, h7, h8, h9⟩ := h
  exact ⟨by omega, by omega, by omega⟩
theorem writes_fits {us : List V} (h : FitsAll treeOpSh us) : Says 6 us := by
  obtain ⟨v0, r0, rfl, h0, v1, r1, rfl, h1, rfl⟩ := h
  obtain ⟨n, l, rfl, hn, hs, hf, _⟩ := tree_fits h0
  obtain ⟨o, rfl, ho⟩ := op_fits h1
  exact writes_says hs hf (op_le ho).1
end Go.Proofs.Ytepehbbagbfmcaa
