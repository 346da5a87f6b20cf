/- VE: arguments of a card, opened: of any plain type (numbers, strings, structs, arrays, slices of such). -/
import Derived.Test.YthhpdnlfhofanaaGreatDoorEvB
import Derived.ProofKit
import Derived.OpenShut
import Derived.ChangeOld
import Derived.ChangeArms
import Derived.Carry
import Derived.SizedLaws
import Derived.Below
import Derived.Test.YthhpdnlfhofanaaGreatDoorEvC
namespace Go.Proofs.YthhpdnlfhofanaaGreatDoor
open Go.RowKit Go.ChangeShapes
set_option linter.unusedVariables false
set_option linter.unusedSimpArgs false
inductive Sh where
  | bool | int (k : IntKind) | str | slice (b z : Nat) (s : Sh) | unit | pair (a b : Sh) | rep (n : Nat) (s : Sh)
def shapeFs (F : TypeId → Option Sh) (cells : TypeId → Nat) : Nat → List Field → Nat → Option Sh
  | off, [], tot => if off = tot then some .unit else none
  | off, f :: r, tot => if f.offset = off then (F f.type).bind fun a => (shapeFs F cells (off + cells f.type) r tot).map (.pair a) else none
def shapeOf (P : Program) : Nat → TypeId → Option Sh
  | 0, _ => none
  | k + 1, t => match P.underlying t with
    | some .bool => some .bool
    | some (.int q) => some (.int q)
    | some .string => some .str
    | some (.slice e) => if 0 < P.cellsOf e then (shapeOf P k e).map (.slice (P.bytesOf e) (P.cellsOf e)) else none
    | some (.struct fs) => shapeFs (shapeOf P k) P.cellsOf 0 fs.toList (P.cellsOf t)
    | some (.array n e) => if n * P.cellsOf e = P.cellsOf t then (shapeOf P k e).map (.rep n) else none
    | _ => none
/-- The values of a shape. -/
def Fits : Sh → List V → Prop
  | .bool, vs => ∃ b, vs = [.bool b]
  | .int k, vs => ∃ n, vs = [.int k n] ∧ k.min ≤ n ∧ n ≤ k.max
  | .str, vs => ∃ s, vs = [.str s] ∧ s.length ≤ 140737488351232
  | .slice b z s, vs => ∃ xs : List (List V), vs = [.lst xs] ∧ xs.length * b ≤ 140737488351232 ∧ ∀ x ∈ xs, x.length = z ∧ Fits s x
  | .unit, vs => vs = []
  | .pair a b, vs => ∃ u v, vs = u ++ v ∧ Fits a u ∧ Fits b v
  | .rep n s, vs => ∃ ps : List (List V), vs = ps.flatten ∧ ps.length = n ∧ ∀ p ∈ ps, Fits s p
section
variable {H : Type} {enc : TypeId × Value → H} {P : Program} {w : World} {spare : Nat → Bool} {held : Bool}
abbrev RV0 (w : World) := RV (fun _ => none) (· < w.heap.size) w
abbrev RVs0 (w : World) := RVs (fun _ => none) (· < w.heap.size) w
theorem RVs0.app {a b : List V} {x y : List Value} (h : RVs0 w a x) (g : RVs0 w b y) : RVs0 w (a ++ b) (x ++ y) := by
  refine ⟨by simp [h.1, g.1], fun i v u hv hu => ?_⟩
  rcases Nat.lt_or_ge i a.length with hi | hi
  · rw [List.getElem?_append_left hi] at hv
    rw [List.getElem?_append_left (by rw [← h.1]; exact hi)] at hu
    exact h.2 i v u hv hu
  · rw [List.getElem?_append_right hi] at hv
    rw [List.getElem?_append_right (by rw [← h.1]; exact hi), ← h.1] at hu
    exact g.2 _ v u hv hu
/-- What opening one row of cells gives. -/
def Opens (w : World) (s : Sh) (cs : List Value) : Prop := ∃ vs : List V, Fits s vs ∧ RVs0 w vs cs ∧ ∀ v ∈ vs, V.isTree v = true
theorem opens_one {s : Sh} {v : V} {x : Value} (h : Fits s [v]) (hr : RV0 w v x) (ht : V.isTree v = true) : Opens w s [x] :=
  ⟨[v], h, .cons hr .nil, fun u hu => by obtain rfl := List.mem_singleton.1 hu; exact ht⟩
theorem Opens.app {a b : Sh} {x y : List Value} (h : Opens w a x) (g : Opens w b y) : Opens w (.pair a b) (x ++ y) := by
  obtain ⟨u, h1, h2, h3⟩ := h
  obtain ⟨v, g1, g2, g3⟩ := g
  exact ⟨u ++ v, ⟨u, v, rfl, h1, g1⟩, h2.app g2, fun q hq => (List.mem_append.1 hq).elim (h3 q) (g3 q)⟩
theorem opens_rep {s : Sh} {z : Nat} : ∀ (n : Nat) (cs : List Value), cs.length = n * z → (∀ i, i < n → Opens w s ((cs.drop (i * z)).take z)) → Opens w (.rep n s) cs
  | 0, cs, hl, _ => by
    have : cs = [] := by cases cs <;> simp_all
    subst this
    exact ⟨[], ⟨[], rfl, rfl, by simp⟩, .nil, by simp⟩
  | n + 1, cs, hl, h => by
    have e : cs = cs.take z ++ cs.drop z := by simp
    have h0 := h 0 (by omega)
    simp only [Nat.zero_mul, List.drop_zero] at h0
    obtain ⟨u, a1, a2, a3⟩ := h0
    have hl' : (cs.drop z).length = n * z := by rw [List.length_drop, hl, Nat.succ_mul]; omega
    obtain ⟨v, ⟨ps, rfl, b1, b1'⟩, b2, b3⟩ := opens_rep n (cs.drop z) hl' (fun i hi => by
      have := h (i + 1) (by omega)
      rw [List.drop_drop]
      rwa [Nat.succ_mul, Nat.add_comm] at this)
    refine ⟨u ++ ps.flatten, ⟨u :: ps, by simp, by simp [b1], fun p hp => ?_⟩, ?_, fun q hq => (List.mem_append.1 hq).elim (a3 q) (b3 q)⟩
    · rcases List.mem_cons.1 hp with rfl | hp
      · exact a1
      · exact b1' p hp
    · rw [e]; exact a2.app b2
theorem opens_fs {F : TypeId → Option Sh} {tot : Nat} {cs : List Value} (hl : cs.length = tot) : ∀ (fs : List Field) (off : Nat) (s : Sh), off ≤ tot → shapeFs F P.cellsOf off fs tot = some s →
    (∀ f ∈ fs, ∀ s, F f.type = some s → Opens w s ((cs.drop f.offset).take (P.cellsOf f.type))) → (∀ f ∈ fs, f.offset + P.cellsOf f.type ≤ tot) → Opens w s (cs.drop off)
  | [], off, s, ho, h, _, _ => by
    simp only [shapeFs] at h
    split at h
    · subst_vars
      cases h
      rw [List.drop_of_length_le (Nat.le_refl _)]
      exact ⟨[], rfl, .nil, by simp⟩
    · cases h
  | f :: r, off, s, ho, h, hF, hb => by
    simp only [shapeFs] at h
    split at h
    · rename_i hoff
      subst hoff
      obtain ⟨a, ha, h⟩ := Option.bind_eq_some_iff.1 h
      obtain ⟨b, hb', rfl⟩ := Option.map_eq_some_iff.1 h
      have hf := hb f (List.mem_cons_self ..)
      have e : cs.drop f.offset = (cs.drop f.offset).take (P.cellsOf f.type) ++ cs.drop (f.offset + P.cellsOf f.type) := by
        rw [← List.drop_drop, List.take_append_drop]
      rw [e]
      exact (hF f (List.mem_cons_self ..) a ha).app (opens_fs hl r _ b hf hb' (fun g hg => hF g (List.mem_cons_of_mem _ hg)) (fun g hg => hb g (List.mem_cons_of_mem _ hg)))
    · cases h
theorem DataW.trod_arr {base fuel n : Nat} {t e : TypeId} {cs : List Value} {x : DataW H × List MemPlace} (ht : P.underlying t = some (.array n e)) (h : DataW.trod enc P w base spare held fuel t cs = some x) :
    ∃ (xs : List (DataW H × List MemPlace)) (m : Nat), fuel = m + 1 ∧ x.1 = .agg (xs.map (·.1)) ∧ cs.length = P.cellsOf t ∧ xs.length = n ∧
      ∀ i, i < n → DataW.trod enc P w base spare held m e ((cs.drop (i * P.cellsOf e)).take (P.cellsOf e)) = xs[i]? := by
  cases fuel with
  | zero => simp [DataW.trod] at h
  | succ m =>
    unfold DataW.trod at h
    rw [ht] at h
    split at h <;> simp_all
    obtain ⟨hl, xs, hx, rfl⟩ := h
    refine ⟨xs, rfl, by simpa using mapM_some_length hx, fun i hi => ?_⟩
    exact mapM_some_get hx i i (by simp [hi])
theorem weightsAll_mem {e : TypeId} {d : DataW H} {n : Nat} : ∀ {l : List (DataW H)}, d ∈ l → n ∈ d.weights P e → n ∈ DataW.weightsAll P e l
  | a :: l, hd, hn => by
    simp only [DataW.weightsAll, List.mem_append]
    rcases List.mem_cons.1 hd with rfl | hd
    · exact .inl hn
    · exact .inr (weightsAll_mem hd hn)
theorem weightsEach_get : ∀ {ts : List TypeId} {l : List (DataW H)} {i : Nat} {t : TypeId} {d : DataW H} {n : Nat}, ts[i]? = some t → l[i]? = some d → n ∈ d.weights P t → n ∈ DataW.weightsEach P ts l
  | t :: ts, a :: l, 0, _, _, n, ht, hd, hn => by
    simp at ht hd; subst ht hd
    simp only [DataW.weightsEach, List.mem_append]; exact .inl hn
  | t :: ts, a :: l, i + 1, _, _, n, ht, hd, hn => by
    simp only [DataW.weightsEach, List.mem_append]
    exact .inr (weightsEach_get (i := i) (by simpa using ht) (by simpa using hd) hn)
  | [], _, i, _, _, n, ht, _, _ => by simp at ht
  | _ :: _, [], i, _, _, n, _, hd, _ => by simp at hd
/-- OPENING: a row of cells that is read as a datum of a plain type. -/
theorem trod_opens : ∀ (k : Nat) (t : TypeId) (n : Nat) (cs : List Value) (x : DataW H × List MemPlace) (s : Sh), shapeOf P k t = some s → DataW.trod enc P w 0 spare held n t cs = some x →
    (∀ q ∈ x.1.weights P t, q ≤ reachBytes) → Opens w s cs
  | 0, _, _, _, _, _, h, _, _ => by simp [shapeOf] at h
  | k + 1, t, n, cs, x, s, h, hd, hz => by
    unfold shapeOf at h
    split at h
    · rename_i hu
      cases h
      obtain ⟨b, rfl, rfl⟩ := DataW.trod_bool hu hd
      exact opens_one (v := .bool b) ⟨b, rfl⟩ (.bool b) rfl
    · rename_i q hu
      cases h
      obtain ⟨m, rfl, rfl, hw⟩ := DataW.trod_int hu hd
      refine opens_one (v := .int q m) ⟨m, rfl, ?_⟩ (.int q m) rfl
      simpa [Lit.wf] using hw
    · rename_i hu
      cases h
      obtain ⟨⟨⟨u⟩⟩, rfl, rfl, _⟩ := DataW.trod_string hu hd
      refine opens_one (v := .str u) ⟨u, rfl, ?_⟩ (.str u) rfl
      exact hz u.length (by simp [DataW.weights])
    · rename_i e hu
      split at h
      · rename_i hpos
        obtain ⟨s', hs', rfl⟩ := Option.map_eq_some_iff.1 h
        rcases DataW.trod_slice hu hd with ⟨rfl, rfl⟩ | ⟨a, len, cap, elems, rest, m, rfl, rfl, rfl, _, hlc, _, hel, hget, _, _⟩
        · exact opens_one (v := .lst []) ⟨[], rfl, by simp, by simp⟩ (.lst0 none 0) rfl
        · have hw : ∀ (i : Nat) (d : DataW H × List MemPlace), elems[i]? = some d → ∀ q ∈ d.1.weights P e, q ≤ reachBytes := fun i d hi q hq => hz q (by
            simp only [DataW.weights, hu]
            refine List.mem_cons_of_mem _ (List.mem_append.2 (.inl (weightsAll_mem (d := d.1) ?_ hq)))
            exact List.mem_map.2 ⟨d, List.mem_of_getElem? hi, rfl⟩)
          have hrow : ∀ i, i < len → ∃ row : List Value, row.length = P.cellsOf e ∧ (∀ j, j < P.cellsOf e → w.cell? ((a.add (i * P.cellsOf e)).add j) = row[j]?) ∧ Opens w s' row := fun i hi => by
            have h1 := hget i hi
            rw [List.getElem?_eq_getElem (by omega)] at h1
            obtain ⟨row, hr, ht⟩ := Option.bind_eq_some_iff.1 h1
            obtain ⟨_, hrl, hrc⟩ := World.cells?_some hr
            exact ⟨row, hrl, hrc, trod_opens k e m row _ s' hs' ht (hw i _ (List.getElem?_eq_getElem (by omega)))⟩
          have hall : ∃ (xs : List (List V)) (u : Nat → Nat → Value), xs.length = len ∧ ∀ i c, xs[i]? = some c → c.length = P.cellsOf e ∧ Fits s' c ∧ (∀ v ∈ c, V.isTree v = true) ∧
              ∀ j v, c[j]? = some v → w.cell? ((a.add (i * P.cellsOf e)).add j) = some (u i j) ∧ RV0 w v (u i j) := by
            clear hget hz hd hel hlc hw
            revert hrow
            generalize len = l
            intro hrow
            induction l with
            | zero => exact ⟨[], fun _ _ => .nilFunc, rfl, by simp⟩
            | succ l ih =>
              obtain ⟨xs, u, hl, hx⟩ := ih (fun i hi => hrow i (by omega))
              obtain ⟨row, hrl, hrc, vs, f1, f2, f3⟩ := hrow l (by omega)
              refine ⟨xs ++ [vs], fun i j => if i = l then row.getD j .nilFunc else u i j, by simp [hl], fun i c hc => ?_⟩
              rcases Nat.lt_or_ge i xs.length with hi | hi
              · rw [List.getElem?_append_left hi] at hc
                have := hx i c hc
                simpa only [show i ≠ l by omega, if_false] using this
              · rw [List.getElem?_append_right hi] at hc
                have hi' : i - xs.length = 0 := by
                  rcases Nat.eq_zero_or_pos (i - xs.length) with h | h
                  · exact h
                  · rw [List.getElem?_eq_none (by simp; omega)] at hc; cases hc
                rw [hi'] at hc
                simp at hc
                subst hc
                obtain rfl : i = l := by omega
                simp only [if_true]
                refine ⟨f2.1.trans hrl, f1, f3, fun j v hv => ?_⟩
                have hj : j < row.length := by rw [← f2.1]; exact (List.getElem?_eq_some_iff.1 hv).1
                have e1 : row[j]? = some (row.getD j .nilFunc) := by rw [List.getD_eq_getElem?_getD, List.getElem?_eq_getElem hj]; rfl
                exact ⟨by rw [hrc j (by omega), e1], f2.2 j v _ hv e1⟩
          obtain ⟨xs, u, hl, hx⟩ := hall
          have hzl : xs.length * P.bytesOf e ≤ 140737488351232 := by
            have := hz ((elems.map (·.1)).length * P.bytesOf e + (rest.map (·.1)).length * P.bytesOf e) (by simp [DataW.weights, hu, Nat.add_mul])
            have e2 : reachBytes = 140737488351232 := rfl
            rw [List.length_map, hel, ← hl] at this
            omega
          have hfit : Fits (.slice (P.bytesOf e) (P.cellsOf e) s') [.lst xs] := ⟨xs, rfl, hzl, fun c hc => by
            obtain ⟨i, hi⟩ := List.mem_iff_getElem?.1 hc
            exact ⟨(hx i c hi).1, (hx i c hi).2.1⟩⟩
          rcases Nat.eq_zero_or_pos len with h0 | h0
          · subst h0
            obtain rfl : xs = [] := List.length_eq_zero_iff.1 hl
            exact opens_one hfit (.lst0 (some a) cap) rfl
          · obtain ⟨b, off, spot⟩ := a
            have hx0 := hx 0 _ (List.getElem?_eq_getElem (by omega))
            have hc0 := (hx0.2.2.2 0 _ (List.getElem?_eq_getElem (by rw [hx0.1]; exact hpos))).1
            have hspot : spot = none := by simpa [Addr.add] using World.cell?_spot hc0
            subst hspot
            have hb : b < w.heap.size := by simpa [Addr.add] using World.block_lt_of_cell? w _ hc0
            refine opens_one hfit ?_ rfl
            rw [← hl]
            refine .lst xs b off (P.cellsOf e) cap u hb (by omega) (fun i c hc => (hx i c hc).1) (fun i c j v hc hv => ?_) (fun i c j v hc hv => (hx i c hc).2.2.1 v (List.mem_of_getElem? hv)) (fun i c j v hc hv => ((hx i c hc).2.2.2 j v hv).2)
            have := ((hx i c hc).2.2.2 j v hv).1
            rwa [Addr.add_lit, Addr.add_lit] at this
      · cases h
    · rename_i fs hu
      obtain ⟨xs, m, rfl, rfl, hl, hn, hget⟩ := DataW.trod_struct hu hd
      have hfits : ∀ f ∈ fs.toList, ∀ s, shapeOf P k f.type = some s → Opens w s ((cs.drop f.offset).take (P.cellsOf f.type)) := fun f hf s hs => by
        obtain ⟨i, hi⟩ := List.mem_iff_getElem?.1 hf
        have hi' : fs[i]? = some f := by simpa using hi
        have h1 := hget i f hi'
        have hlt : i < xs.length := by
          rw [hn]
          exact (Array.getElem?_eq_some_iff.1 hi').1
        rw [List.getElem?_eq_getElem hlt] at h1
        refine trod_opens k f.type m _ _ s hs h1 fun q hq => hz q ?_
        simp only [DataW.weights, hu]
        exact weightsEach_get (i := i) (t := f.type) (d := xs[i].1) (by simp [hi']) (by simp [List.getElem?_eq_getElem hlt]) hq
      have hb : ∀ (fs : List Field) (off tot : Nat) (s : Sh), shapeFs (shapeOf P k) P.cellsOf off fs tot = some s → off ≤ tot ∧ ∀ f ∈ fs, f.offset + P.cellsOf f.type ≤ tot := by
        intro fs
        induction fs with
        | nil =>
          intro off tot s h
          simp only [shapeFs] at h
          split at h
          · exact ⟨by omega, by simp⟩
          · cases h
        | cons f r ih =>
          intro off tot s h
          simp only [shapeFs] at h
          split at h
          · obtain ⟨a, _, h⟩ := Option.bind_eq_some_iff.1 h
            obtain ⟨b, h, _⟩ := Option.map_eq_some_iff.1 h
            obtain ⟨i1, i2⟩ := ih _ _ _ h
            refine ⟨by omega, fun g hg => ?_⟩
            rcases List.mem_cons.1 hg with rfl | hg
            · omega
            · exact i2 g hg
          · cases h
      have := opens_fs (P := P) hl fs.toList 0 s (by omega) h hfits (hb _ _ _ _ h).2
      simpa using this
    · rename_i m' e hu
      split at h
      · rename_i hc
        obtain ⟨s', hs', rfl⟩ := Option.map_eq_some_iff.1 h
        obtain ⟨xs, m, rfl, hx1, hl, hn, hget⟩ := DataW.trod_arr hu hd
        refine opens_rep (z := P.cellsOf e) _ _ (by rw [hl, hc]) fun i hi => ?_
        have h1 := hget i hi
        rw [List.getElem?_eq_getElem (by omega)] at h1
        refine trod_opens k e m _ _ s' hs' h1 fun q hq => hz q ?_
        rw [hx1]
        simp only [DataW.weights, hu]
        exact weightsAll_mem (d := xs[i].1) (List.mem_map.2 ⟨xs[i], List.getElem_mem (by omega), rfl⟩) hq
      · cases h
    · cases h
end
end Go.Proofs.YthhpdnlfhofanaaGreatDoor
namespace Go.Proofs.YthhpdnlfhofanaaGreatDoor
open Go.RowKit Go.ChangeShapes
set_option linter.unusedVariables false
set_option linter.unusedSimpArgs false
/-- The value of a parameter of a shape. -/
def FitsA : Sh → V → Prop
  | .unit, v => v = .agg []
  | .pair a b, v => ∃ vs, v = .agg vs ∧ Fits (.pair a b) vs
  | .rep n s, v => ∃ vs, v = .agg vs ∧ Fits (.rep n s) vs
  | s, v => Fits s [v]
def FitsAll : List Sh → List V → Prop
  | [], vs => vs = []
  | s :: ss, vs => ∃ v r, vs = v :: r ∧ FitsA s v ∧ FitsAll ss r
section
variable {H : Type} {enc : TypeId × Value → H} {P : Program} {w : World} {spare : Nat → Bool} {held : Bool}
theorem rv_agg {vs : List V} {cs : List Value} (h : RVs0 w vs cs) : RV0 w (.agg vs) (.agg ⟨cs⟩) := .agg vs cs h.1 h.2
theorem shape_agg {k : Nat} {t : TypeId} {s : Sh} (h : shapeOf P k t = some s) : (∃ fs, P.underlying t = some (.struct fs)) ∨ (∃ n e, P.underlying t = some (.array n e)) ∨
    ((∀ fs, P.underlying t ≠ some (.struct fs)) ∧ (∀ n e, P.underlying t ≠ some (.array n e)) ∧ ∀ v, FitsA s v = Fits s [v]) := by
  cases k with
  | zero => simp [shapeOf] at h
  | succ k =>
    unfold shapeOf at h
    split at h
    · cases h; rename_i hu; exact .inr (.inr ⟨by simp [hu], by simp [hu], fun _ => rfl⟩)
    · cases h; rename_i hu; exact .inr (.inr ⟨by simp [hu], by simp [hu], fun _ => rfl⟩)
    · cases h; rename_i hu; exact .inr (.inr ⟨by simp [hu], by simp [hu], fun _ => rfl⟩)
    · rename_i e hu
      split at h
      · obtain ⟨s', hs', rfl⟩ := Option.map_eq_some_iff.1 h
        exact .inr (.inr ⟨by simp [hu], by simp [hu], fun _ => rfl⟩)
      · cases h
    · rename_i fs hu; exact .inl ⟨fs, hu⟩
    · rename_i n e hu; exact .inr (.inl ⟨n, e, hu⟩)
    · cases h
theorem fits_agg {k : Nat} {t : TypeId} {s : Sh} (h : shapeOf P k t = some s) (ha : (∃ fs, P.underlying t = some (.struct fs)) ∨ (∃ n e, P.underlying t = some (.array n e))) {vs : List V} (hf : Fits s vs) : FitsA s (.agg vs) := by
  have fsAgg : ∀ {F : TypeId → Option Sh} {c : TypeId → Nat} {off tot : Nat} {fs : List Field} {s : Sh}, shapeFs F c off fs tot = some s → ∀ {vs : List V}, Fits s vs → FitsA s (.agg vs) := by
    intro F c off tot fs s h vs hf
    cases fs with
    | nil =>
      simp only [shapeFs] at h
      split at h
      · cases h; simp only [Fits] at hf; subst hf; rfl
      · cases h
    | cons f r =>
      simp only [shapeFs] at h
      split at h
      · obtain ⟨a, _, h⟩ := Option.bind_eq_some_iff.1 h
        obtain ⟨b, _, rfl⟩ := Option.map_eq_some_iff.1 h
        exact ⟨vs, rfl, hf⟩
      · cases h
  cases k with
  | zero => simp [shapeOf] at h
  | succ k =>
    rcases ha with ⟨fs, hu⟩ | ⟨n, e, hu⟩
    · simp only [shapeOf, hu] at h
      exact fsAgg h hf
    · simp only [shapeOf, hu] at h
      split at h
      · obtain ⟨s', hs', rfl⟩ := Option.map_eq_some_iff.1 h
        exact ⟨vs, rfl, hf⟩
      · cases h
theorem arg_open {k : Nat} {t : TypeId} {s : Sh} {r : Reach} {b0 : Nat} {v : Value} {d : DataW H} {p : List MemPlace} (hs : shapeOf P k t = some s) (hv : Value.okWide P w r b0 t v) (h : DataW.Trod enc P w 0 spare held t v d p)
    (hz : ∀ q ∈ d.weights P t, q ≤ reachBytes) : ∃ u, FitsA s u ∧ RV0 w u v := by
  obtain ⟨n, h⟩ := h
  obtain ⟨vs, f1, f2, f3⟩ := trod_opens k t n _ _ s hs h hz
  rcases shape_agg hs with ⟨fs, hu⟩ | ⟨n, e, hu⟩ | ⟨h1, h2, h3⟩
  · unfold Value.okWide at hv
    simp only [hu] at hv
    obtain ⟨cs, rfl, _⟩ := hv
    obtain ⟨cs⟩ := cs
    exact ⟨.agg vs, fits_agg hs (.inl ⟨fs, hu⟩) f1, rv_agg f2⟩
  · unfold Value.okWide at hv
    simp only [hu] at hv
    obtain ⟨cs, rfl, _⟩ := hv
    obtain ⟨cs⟩ := cs
    exact ⟨.agg vs, fits_agg hs (.inr ⟨n, e, hu⟩) f1, rv_agg f2⟩
  · have hna : ∀ cs, v ≠ .agg cs := by
      rintro cs rfl
      unfold Value.okWide at hv
      split at hv
      · rename_i hu; exact h1 _ hu
      · rename_i hu; exact h2 _ _ hu
      · unfold Cell.okWide at hv
        split at hv <;> simp_all [Cell.ok]
    have hc : v.cells.toList = [v] := by
      cases v <;> first | rfl | exact absurd rfl (hna _)
    rw [hc] at f2
    obtain ⟨u, rfl⟩ : ∃ u, vs = [u] := by
      have := f2.1
      match vs, this with
      | [u], _ => exact ⟨u, rfl⟩
    exact ⟨u, by rw [h3]; exact f1, f2.2 0 u v rfl rfl⟩
theorem args_open {k : Nat} {r : Reach} {b0 : Nat} : ∀ {ts : List TypeId} {ss : List Sh} {args : List Value} {ds : List (DataW H)} {p : List MemPlace}, ts.map (shapeOf P k) = ss.map some →
    DataW.TrodAll enc P w 0 spare held ts args ds p → (∀ (j : Nat) t v, ts[j]? = some t → args[j]? = some v → Value.okWide P w r b0 t v) → (∀ q ∈ DataW.weightsEach P ts ds, q ≤ reachBytes) →
    ∃ us, FitsAll ss us ∧ RVs0 w us args
  | [], ss, args, ds, p, hs, h, _, _ => by
    cases ss <;> simp at hs
    obtain ⟨rfl, rfl, rfl⟩ := trodAll_nil h
    exact ⟨[], rfl, .nil⟩
  | t :: ts, ss, args, ds, p, hs, h, hv, hz => by
    cases ss with
    | nil => simp at hs
    | cons s ss =>
      simp only [List.map_cons, List.cons.injEq] at hs
      obtain ⟨v, vs, d, ds', p1, q1, rfl, rfl, rfl, h1, h2⟩ := trodAll_cons h
      simp only [DataW.weightsEach, List.mem_append] at hz
      obtain ⟨u, f, rv⟩ := arg_open hs.1 (hv 0 t v rfl rfl) h1 (fun q hq => hz q (.inl hq))
      obtain ⟨us, fs, rvs⟩ := args_open hs.2 h2 (fun j t v ht hj => hv (j + 1) t v (by simpa using ht) (by simpa using hj)) (fun q hq => hz q (.inr hq))
      exact ⟨u :: us, ⟨u, us, rfl, f, fs⟩, .cons rv rvs⟩
theorem args_stay (hl : laidOutB P = true) {W W' : World} (hb : Below W.heap.size W W') : ∀ {ts : List TypeId} {args : List Value} {ds : List (DataW H)} {p : List MemPlace}, (∀ t ∈ ts, P.readableRec t = true ∧ t < P.types.size) →
    DataW.TrodAll enc P W 0 (fun _ => true) true ts args ds p → DataW.TrodAll enc P W' 0 (fun b => decide (b < W.heap.size)) true ts args ds p
  | [], args, ds, p, _, h => by
    obtain ⟨rfl, rfl, rfl⟩ := trodAll_nil h
    exact trodAll_mk0
  | t :: ts, args, ds, p, ht, h => by
    obtain ⟨v, vs, d, ds', p1, q1, rfl, rfl, rfl, h1, h2⟩ := trodAll_cons h
    have hlt : ∀ x ∈ p1, x.block < W.heap.size := by obtain ⟨m, hm⟩ := h1; exact DataW.trod_lt m _ _ _ hm
    obtain ⟨a, b⟩ := ht t (List.mem_cons_self ..)
    exact trodAll_cons_mk (Below.trod hl a b h1 hb hlt) (args_stay hl hb (fun t h => ht t (List.mem_cons_of_mem _ h)) h2)
end
end Go.Proofs.YthhpdnlfhofanaaGreatDoor
namespace Go.Proofs.YthhpdnlfhofanaaGreatDoor
open Go.RowKit
set_option linter.unusedVariables false
set_option linter.unusedSimpArgs false
theorem rows_of {α : Type} (g : α → List V) (Q : α → Prop) : ∀ {xs : List (List V)}, (∀ x ∈ xs, ∃ a, x = g a ∧ Q a) → ∃ l : List α, xs = l.map g ∧ ∀ a ∈ l, Q a
  | [], _ => ⟨[], rfl, by simp⟩
  | x :: xs, h => by
    obtain ⟨a, rfl, ha⟩ := h x (List.mem_cons_self ..)
    obtain ⟨l, rfl, hl⟩ := rows_of g Q (xs := xs) fun y hy => h y (List.mem_cons_of_mem _ hy)
    exact ⟨a :: l, rfl, fun b hb => by
      rcases List.mem_cons.1 hb with rfl | hb
      · exact ha
      · exact hl b hb⟩
theorem fits_oneS {vs : List V} (h : Fits .str vs) : ∃ x : List UInt8, vs = [.str x] ∧ x.length ≤ 140737488351232 := h
theorem fits_oneB {vs : List V} (h : Fits .bool vs) : ∃ x : Bool, vs = [.bool x] ∧ True := by obtain ⟨b, h⟩ := h; exact ⟨b, h, trivial⟩
theorem fits_oneI {k : IntKind} {vs : List V} (h : Fits (.int k) vs) : ∃ x : Int, vs = [.int k x] ∧ (k.min ≤ x ∧ x ≤ k.max) := h
def strV (l : List (List UInt8)) : List (List V) := l.map fun x => [.str x]
def intV (l : List Int) : List (List V) := l.map fun x => [.int .i64 x]
theorem strV_len (l : List (List UInt8)) : (strV l).length = l.length := by simp [strV]
theorem intV_len (l : List Int) : (intV l).length = l.length := by simp [intV]
theorem strV_row {l : List (List UInt8)} {i : Nat} {f : List UInt8} (h : l[i]? = some f) : rowAt (strV l) (i : Int) = [.str f] := by simp [rowAt, strV, List.getD, h]
theorem intV_row {l : List Int} {i : Nat} {f : Int} (h : l[i]? = some f) : rowAt (intV l) (i : Int) = [.int .i64 f] := by simp [rowAt, intV, List.getD, h]
theorem strV_ok {l : List (List UInt8)} {i : Nat} (h : i < l.length) : okRow (strV l) i 1 = true := by simp [okRow, strV, List.getElem?_eq_getElem h]
theorem intV_ok {l : List Int} {i : Nat} (h : i < l.length) : okRow (intV l) i 1 = true := by simp [okRow, intV, List.getElem?_eq_getElem h]
theorem leN_succ (n : Nat) : leN (n + 1) n = false := by simp [leN]
theorem eqN_self (n : Nat) : eqN n n = true := by simp [eqN]
theorem br_tt {A B : Prop} : br true A B = A := rfl
theorem br_ff {A B : Prop} : br false A B = B := rfl
theorem need_tt {A : Prop} : need true A = A := rfl
theorem andB_tt {b : Bool} : andB true b = b := rfl
theorem leI_self (n : Int) : leI n n = true := by simp [leI]
theorem strV_all (l : List (List UInt8)) : List.take l.length (strV l) = strV l := List.take_of_length_le (by simp [strV])
theorem intV_all (l : List Int) : List.take l.length (intV l) = intV l := List.take_of_length_le (by simp [intV])
theorem strV_all1 (l : List (List UInt8)) (x : List V) : List.take (l.length + 1) (strV l ++ [x]) = strV l ++ [x] := List.take_of_length_le (by simp [strV])
theorem intV_all1 (l : List Int) (x : List V) : List.take (l.length + 1) (intV l ++ [x]) = intV l ++ [x] := List.take_of_length_le (by simp [intV])
theorem appIn {α : Type} (a b : List α) : List.take a.length a ++ b ++ List.drop (a.length + b.length) a = a ++ b := by
  rw [List.take_length, List.drop_of_length_le (by omega), List.append_nil]
theorem appIn' {α : Type} (a b : List α) : a ++ b ++ List.drop (a.length + b.length) a = a ++ b := by
  rw [List.drop_of_length_le (by omega), List.append_nil]
theorem takeApp {α : Type} (a b : List α) : List.take (a.length + b.length) (a ++ b) = a ++ b := List.take_of_length_le (by simp)
theorem quoI_i64 {a b : Int} (h0 : 0 ≤ a) (h1 : a ≤ 9223372036854775807) (hb : 0 < b) : quoI .i64 a b = a / b := by
  unfold quoI
  rw [Int.tdiv_eq_ediv_of_nonneg h0]
  have h2 : a / b ≤ a := Int.ediv_le_self b h0
  have h3 : 0 ≤ a / b := Int.ediv_nonneg h0 (by omega)
  exact wrap64 (by omega) (by omega)
/-- Division, kept folded. -/
def modI (a b : Int) : Int := a % b
def divI (a b : Int) : Int := a / b
theorem tmod_pos {a b : Int} (h0 : 0 ≤ a) : a.tmod b = a % b := Int.tmod_eq_emod_of_nonneg h0
theorem strV_lenL (l : List (List UInt8)) : lenL (strV l) = (l.length : Int) := by simp [lenL, strV]
theorem intV_lenL (l : List Int) : lenL (intV l) = (l.length : Int) := by simp [lenL, intV]
theorem strV_inj {a b : List (List UInt8)} : strV a = strV b ↔ a = b := List.map_inj_right fun _ _ h => by simpa using h
theorem intV_inj {a b : List Int} : intV a = intV b ↔ a = b := List.map_inj_right fun _ _ h => by simpa using h
theorem strV_snoc {l : List (List UInt8)} {j : Nat} {f : List UInt8} (h : l[j]? = some f) : strV (l.take j) ++ [[.str f]] = strV (l.take (j + 1)) := by
  obtain ⟨h1, rfl⟩ := List.getElem?_eq_some_iff.1 h
  unfold strV; rw [List.take_succ_eq_append_getElem h1, List.map_append]; rfl
theorem intV_snoc {l : List Int} {j : Nat} {f : Int} (h : l[j]? = some f) : intV (l.take j) ++ [[.int .i64 f]] = intV (l.take (j + 1)) := by
  obtain ⟨h1, rfl⟩ := List.getElem?_eq_some_iff.1 h
  unfold intV; rw [List.take_succ_eq_append_getElem h1, List.map_append]; rfl
theorem strV_app (a b : List (List UInt8)) : strV a ++ strV b = strV (a ++ b) := by simp [strV]
theorem intV_app (a b : List Int) : intV a ++ intV b = intV (a ++ b) := by simp [intV]
theorem strV_take (a : List (List UInt8)) (n : Nat) : List.take n (strV a) = strV (a.take n) := by simp [strV]
theorem strV_drop (a : List (List UInt8)) (n : Nat) : List.drop n (strV a) = strV (a.drop n) := by simp [strV]
theorem intV_take (a : List Int) (n : Nat) : List.take n (intV a) = intV (a.take n) := by simp [intV]
theorem intV_drop (a : List Int) (n : Nat) : List.drop n (intV a) = intV (a.drop n) := by simp [intV]
theorem strV_head (a : List (List UInt8)) : headOkP 1 (strV a) = true := by cases a <;> rfl
theorem intV_head (a : List Int) : headOkP 1 (intV a) = true := by cases a <;> rfl
end Go.Proofs.YthhpdnlfhofanaaGreatDoor
