/- VE: new slices, copies, slices of slices, addresses, against the model's. -/
import Derived.Test.YthhpdnlfhofanaaGreatDoorEvA
import Derived.Laws.BytesString
import Derived.Orders
import Derived.LoopN
import Derived.Defers
namespace Go.Proofs.YthhpdnlfhofanaaGreatDoor
open Go.RowKit
set_option linter.unusedVariables false
set_option linter.unusedSimpArgs false
section
variable {gl : Gl} {P : Program} {C : Ctx} {m : Gh} {S : Nat → Prop} {h : Heap} {w : World}
theorem mapM_run {α β : Type} (f : α → Sem β) (g : α → Option β) (w : World) (hf : ∀ a b, g a = some b → (f a).run P w = .ok b w) : ∀ (xs : List α) (ys : List β), xs.mapM g = some ys → (xs.mapM f).run P w = .ok ys w
  | [], ys, e => by simp at e; subst e; rfl
  | x :: xs, ys, e => by
    simp only [List.mapM_cons, Option.bind_eq_bind, Option.bind_eq_some_iff, Option.pure_def, Option.some.injEq] at e
    obtain ⟨y, hy, ys', hys, rfl⟩ := e
    simp [List.mapM_cons, hf _ _ hy, mapM_run f g w hf xs ys' hys]
theorem places_run (w : World) : ∀ {fs : List Field} {ps : List (Nat × Nat)}, placesT P fs = some ps → (fs.mapM fun (f : Field) => do pure (f.offset, ← sizeOf f.type) : Sem (List (Nat × Nat))).run P w = .ok ps w
  | [], ps, e => by simp [placesT] at e; subst e; rfl
  | f :: fs, ps, e => by
    simp only [placesT] at e
    split at e
    · rename_i z r hz hr
      injection e with e; subst e
      have ih := places_run w hr
      simp only [bind_pure_comp] at ih
      simp [List.mapM_cons, run_sizeOf hz, ih]
    · cases e
theorem places_get : ∀ {fs : List Field} {ps : List (Nat × Nat)}, placesT P fs = some ps → ∀ (i : Nat), ps[i]? = match (fs[i]? : Option Field) with
    | some f => match szT P f.type with
      | some z => some (f.offset, z)
      | none => none
    | none => none
  | [], ps, e, i => by simp [placesT] at e; subst e; simp
  | f :: fs, ps, e, i => by
    simp only [placesT] at e
    split at e
    · rename_i z r hz hr
      injection e with e; subst e
      match i with
      | 0 => simp [hz]
      | i + 1 => simpa using places_get hr i
    · cases e
theorem fill_congr {p q : Nat → Option (Nat × Nat)} (e : ∀ i, p i = q i) (cs : Array Value) (ps : List (Nat × Value)) : Instr.fill p cs ps = Instr.fill q cs ps := by rw [funext e]
theorem build_run {t : TypeId} {ps : List (Nat × Operand)} {ts : Tmps} {a : Act} (ht : TR gl m S w ts a) {z : V} {vs : List (Nat × V)} (hz : zeroT P t = some z) (hv : evParts gl ts ps = some vs) {v : V}
    (e : (match P.underlying t with
    | some (.struct fs) => match placesT P fs.toList with
      | some _ => (fillV (fieldPlaces P fs) z.cells vs).map .agg
      | none => none
    | some (.array _ e) => do
      let n ← szT P e
      (fillV (fun i => some (i * n, n)) z.cells vs).map .agg
    | _ => none) = some v) : ∃ x, (Instr.build t (ps.toArray.map fun x => (x.1, a.eval x.2))).run P w = .ok x w ∧ RV m S w v x := by
  obtain ⟨zx, hzr, hzv, _⟩ := run_zero (P := P) (m := m) (S := S) hz w
  have hp := parts_run ht hv
  split at e
  · rename_i fs hu
    cases hpl : placesT P fs.toList with
    | none => simp only [hpl] at e; cases e
    | some pl =>
      simp only [hpl] at e
      obtain ⟨c, hc, rfl⟩ := Option.map_eq_some_iff.1 e
      obtain ⟨xs, h1, h2⟩ := fill_run hc hzv.cells hp
      refine ⟨.agg ⟨xs⟩, ?_, RV.agg' h2⟩
      have hpr := places_run (P := P) w hpl
      have hmap : (fs.mapM fun (f : Field) => do pure (f.offset, ← sizeOf f.type) : Sem (Array (Nat × Nat))).run P w = .ok pl.toArray w := by
        rw [← Array.toArray_toList (xs := fs), List.mapM_toArray]
        simp only [Sem.run_map, hpr, Result.andThen_ok]
      have hfl : Instr.fill (fun i => pl.toArray[i]?) zx.cells (ps.map fun x => (x.1, a.eval x.2)) = some ⟨xs⟩ := by
        rw [fill_congr (q := fieldPlaces P fs) (fun i => by
          rw [List.getElem?_toArray, places_get hpl i]
          unfold fieldPlaces
          cases fs.toList[i]? with
          | none => rfl
          | some f => simp only; cases szT P f.type <;> rfl)]
        exact h1
      simp only [Instr.build, Sem.run_bind, hzr, Result.andThen_ok, run_underlying hu, hmap]
      simp only [List.map_toArray, hfl]
      rfl
  · rename_i n0 el hu
    simp only [Option.bind_eq_bind, Option.bind_eq_some_iff] at e
    obtain ⟨n, hn, e⟩ := e
    obtain ⟨c, hc, rfl⟩ := Option.map_eq_some_iff.1 e
    obtain ⟨xs, h1, h2⟩ := fill_run hc hzv.cells hp
    refine ⟨.agg ⟨xs⟩, ?_, RV.agg' h2⟩
    simp only [Instr.build, Sem.run_bind, hzr, Result.andThen_ok, run_underlying hu, run_sizeOf hn]
    have h1' : Instr.fill (fun i => some (i * n, n)) zx.cells (ps.map fun x => (x.1, a.eval x.2)) = some ⟨xs⟩ := h1
    simp only [List.map_toArray, h1']
    rfl
  · cases e
/-- All parts of a slice, in their order. -/
theorem inOrder_run {z : Nat} : ∀ {vs : List (Nat × V)} {k : Nat} {es : List (List V)} {ps : List (Nat × Value)} {cur : List Value}, inOrder z k vs = some es →
    (vs.length = ps.length ∧ ∀ (i : Nat) a b, vs[i]? = some a → ps[i]? = some b → a.1 = b.1 ∧ RV m S w a.2 b.2) → cur.length = (k + vs.length) * z →
    ∃ xs : List (List Value), xs.length = es.length ∧ es.length = vs.length ∧ (∀ (i : Nat) c x, es[i]? = some c → xs[i]? = some x → c.length = z ∧ RVs m S w c x) ∧
      (∀ c ∈ es, ∀ v ∈ c, V.leaf v = true) ∧ Instr.fill (fun i => some (i * z, z)) ⟨cur⟩ ps = some ⟨cur.take (k * z) ++ xs.flatten⟩
  | [], k, es, ps, cur, e, hp, hl => by
    simp only [inOrder, Option.some.injEq] at e
    subst e
    obtain rfl : ps = [] := List.eq_nil_of_length_eq_zero hp.1.symm
    refine ⟨[], rfl, rfl, by simp, by simp, ?_⟩
    simp only [Instr.fill, List.flatten_nil, List.append_nil]
    rw [List.take_of_length_le (by simp at hl; omega)]
  | (i, v) :: vs, k, es, [], cur, e, hp, hl => by simp at hp
  | (i, v) :: vs, k, es, (j, y) :: ps, cur, e, hp, hl => by
    obtain ⟨hij, hv⟩ := hp.2 0 _ _ rfl rfl
    simp only at hij hv
    subst hij
    simp only [inOrder, Bool.cond_eq_ite] at e
    split at e
    · rename_i hg
      simp only [Bool.and_eq_true] at hg
      obtain ⟨⟨hik, hz⟩, hlf⟩ := hg
      obtain rfl := beq_nat hik
      have hz := beq_nat hz
      cases hr : inOrder z (i + 1) vs with
      | none => rw [hr] at e; cases e
      | some r =>
        rw [hr] at e
        simp only [Option.some.injEq] at e
        subst e
        have hvc := hv.cells
        have hys : y.cells.size = z := by have := hvc.1; simp at this; omega
        simp only [List.length_cons] at hl
        have hmul : (i + (vs.length + 1)) * z = i * z + z + vs.length * z := by rw [Nat.add_mul, Nat.add_mul]; omega
        have hfit : i * z + y.cells.toList.length ≤ cur.length := by simp; omega
        have hfold := foldl_set (i * z) y.cells.toList 0 ⟨cur⟩ (by simpa using hfit)
        simp only [Nat.add_zero] at hfold
        obtain ⟨xs, h1, h2, h3, h4, h5⟩ := inOrder_run (cur := cur.take (i * z) ++ y.cells.toList ++ cur.drop (i * z + y.cells.toList.length)) hr
          ⟨by simpa using hp.1, fun k a b ha hb => hp.2 (k + 1) a b (by simpa using ha) (by simpa using hb)⟩ (by rw [splice_len _ _ _ hfit, hl]; congr 1; omega)
        refine ⟨y.cells.toList :: xs, by simp [h1], by simp [h2], fun q c x hc hx => ?_, fun c hc v hv => ?_, ?_⟩
        · match q with
          | 0 => simp at hc hx; subst hc; subst hx; exact ⟨hz, hvc⟩
          | q + 1 => exact h3 q c x (by simpa using hc) (by simpa using hx)
        · rcases List.mem_cons.1 hc with rfl | hc
          · exact List.all_eq_true.1 hlf v hv
          · exact h4 c hc v hv
        · simp only [Instr.fill]
          rw [if_neg (by simp [hys]; simp at hfit; omega)]
          have e3 : (y.cells.zipIdx.foldl (fun cs (x : Value × Nat) => match x with | (c, j) => cs.setIfInBounds (i * z + j) c) (⟨cur⟩ : Array Value)) = (cur.take (i * z) ++ y.cells.toList ++ cur.drop (i * z + y.cells.toList.length)).toArray := by
            rw [← hfold, ← Array.foldl_toList, Array.toList_zipIdx]
          rw [e3, h5]
          congr 2
          have e4 : (cur.take (i * z) ++ y.cells.toList).length = (i + 1) * z := by rw [List.length_append, List.length_take]; simp at hfit ⊢; rw [Nat.add_mul]; omega
          rw [← e4, List.take_left]
          simp
    · cases e
/-- Lists of lists, flat. -/
theorem flat_flatten {z : Nat} : ∀ {es : List (List V)} {xs : List (List Value)}, xs.length = es.length → (∀ (i : Nat) c x, es[i]? = some c → xs[i]? = some x → c.length = z ∧ RVs m S w c x) → (∀ c ∈ es, ∀ v ∈ c, V.isTree v = true) → Flat m S w z es xs.flatten
  | [], xs, hl, h1, h2 => by
    obtain rfl : xs = [] := List.eq_nil_of_length_eq_zero hl
    exact .nil
  | c :: es, [], hl, h1, h2 => by simp at hl
  | c :: es, x :: xs, hl, h1, h2 => by
    obtain ⟨h3, h4⟩ := h1 0 c x rfl rfl
    exact Flat.cons h4 h3 (h2 c (List.mem_cons_self ..)) (flat_flatten (by simpa using hl) (fun i c x hc hx => h1 (i + 1) c x (by simpa using hc) (by simpa using hx)) (fun c hc => h2 c (List.mem_cons_of_mem _ hc)))
/-- A new row, all of whose cells are known. -/
theorem newRow_ext (hi : Inv C S m h w) {site : Nat} (hs : hget h site = none) {es : List (List V)} {vs : List Value} {z : Nat} (hf : Flat m S w z es vs) (hz1 : 1 ≤ z) (e : TypeId) (len : Nat) (hlen : len ≤ es.length) :
    ∃ m', Ext C S m w S m' ((site, ⟨true, false, true, es, 0⟩) :: h) (w.alloc (.cells vs.toArray e)) ∧ RV m' S (w.alloc (.cells vs.toArray e)) (.ref site 0 len es.length) (.slice (some ⟨w.heap.size, 0, none⟩) len es.length) := by
  have hvl := hf.1
  obtain ⟨hi', hr⟩ := Inv.alloc (w' := w.alloc (.cells vs.toArray e)) hi hs (box := false) (elems := es)
    (arr := vs.toArray) (ty := e) z 0 (.inl rfl) (fun _ => rfl) rfl rfl rfl rfl (fun _ => hf.2.1) (fun i c j v hc hv => isTree_leaf (hf.2.1 i c j v hc hv)) (by simp [hvl]) (fun _ => hz1) (fun e0 => by simp [hvl, e0])
    (fun i c hc => ⟨(hf.2.2 i c hc).1, fun j v hv => by
      obtain ⟨u, hu, hv'⟩ := (hf.2.2 i c hc).2 j v hv
      exact ⟨u, by simpa using hu, hv'⟩⟩)
  refine ⟨_, ⟨hi', upd_mono (dom_none hi hs), fun _ h => h, hr⟩, ?_⟩
  have := RV.ref (m := upd m site ⟨.cells, w.heap.size, 0, z, es.length, vs.toArray.size⟩) (S := S) (w := w.alloc (.cells vs.toArray e)) site 0 len es.length es.length
    ⟨.cells, w.heap.size, 0, z, es.length, vs.toArray.size⟩ (by unfold upd; rw [if_pos rfl]) rfl (by simp) hlen (Nat.le_refl _) (by simp [hvl])
  simpa using this
theorem chunks_get {z : Nat} : ∀ {n : Nat} {l : List V} {i : Nat}, i < n → (chunks z n l)[i]? = some ((l.drop (i * z)).take z)
  | 0, l, i, h => absurd h (Nat.not_lt_zero _)
  | n + 1, l, 0, h => by simp [chunks]
  | n + 1, l, i + 1, h => by
    simp only [chunks, List.getElem?_cons_succ]
    rw [chunks_get (show i < n by omega), List.drop_drop]
    congr 3
    rw [Nat.add_mul]; omega
theorem chunks_len {z : Nat} : ∀ (n : Nat) (l : List V), (chunks z n l).length = n
  | 0, l => rfl
  | n + 1, l => by simp [chunks, chunks_len n]
/-- A new array's variable that is laid as a row. -/
theorem newRows_run (hi : Inv C S m h w) {site : Nat} (hs : hget h site = none) {v : V} {x : Value} (hx : RV m S w v x) {z : Nat} (hz1 : 1 ≤ z) (hz2 : z ≤ v.cells.length) (hz3 : v.cells.length / z * z = v.cells.length) (htree : ∀ c ∈ v.cells, V.isTree c = true) (t : TypeId) :
    ∃ m' w', (newVar t x).run P w = .ok ⟨w.heap.size, 0, none⟩ w' ∧ Ext C S m w S m' ((site, ⟨true, false, true, chunks z (v.cells.length / z) v.cells, 0⟩) :: h) w' ∧ RV m' S w' (.ptr site 0 0) (.pointer (some ⟨w.heap.size, 0, none⟩)) := by
  have hc := hx.cells
  have hcl : v.cells.length = x.cells.size := by have := hc.1; simpa using this
  have hn : 1 ≤ v.cells.length / z := Nat.div_pos hz2 hz1
  have hf : Flat m S w z (chunks z (v.cells.length / z) v.cells) x.cells.toList := by
    have get : ∀ {i : Nat} {c : List V}, (chunks z (v.cells.length / z) v.cells)[i]? = some c → c = (v.cells.drop (i * z)).take z ∧ i * z + z ≤ v.cells.length := by
      intro i c hc
      have hlt := lt_of_get hc
      rw [chunks_len] at hlt
      rw [chunks_get hlt] at hc
      injection hc with hc
      refine ⟨hc.symm, ?_⟩
      have := Nat.mul_le_mul_right z (show i + 1 ≤ v.cells.length / z by omega)
      rw [Nat.add_mul] at this; omega
    have mem : ∀ {i : Nat} {c : List V} {j : Nat} {u : V}, (chunks z (v.cells.length / z) v.cells)[i]? = some c → c[j]? = some u → v.cells[i * z + j]? = some u := by
      intro i c j u hc hu
      obtain ⟨rfl, hle⟩ := get hc
      rw [List.getElem?_take] at hu
      split at hu
      · rwa [List.getElem?_drop] at hu
      · cases hu
    refine ⟨by rw [chunks_len, hz3]; simp [hcl], fun i c j u hc hu => htree u (List.mem_of_getElem? (mem hc hu)), fun i c hc' => ⟨?_, fun j u hu => ?_⟩⟩
    · obtain ⟨rfl, hle⟩ := get hc'
      simp; omega
    · exact hc.get (mem hc' hu)
  have hvl := hf.1
  obtain ⟨hi', hr⟩ := Inv.alloc (w' := w.alloc (.cells x.cells t)) hi hs (box := false) (elems := chunks z (v.cells.length / z) v.cells)
    (arr := x.cells) (ty := t) z 0 (.inl rfl) (fun _ => rfl) rfl rfl rfl rfl (fun _ => hf.2.1) (fun i c j v hc hv => isTree_leaf (hf.2.1 i c j v hc hv)) (by rw [← hvl]; simp) (fun _ => hz1) (fun e0 => by rw [chunks_len] at e0; omega)
    (fun i c hc => ⟨(hf.2.2 i c hc).1, fun j v hv => by
      obtain ⟨u, hu, hv'⟩ := (hf.2.2 i c hc).2 j v hv
      exact ⟨u, by simpa using hu, hv'⟩⟩)
  refine ⟨_, w.alloc (.cells x.cells t), rfl, ⟨hi', upd_mono (dom_none hi hs), fun _ h => h, hr⟩, ?_⟩
  have := RV.ptr (m := upd m site ⟨.cells, w.heap.size, 0, z, (chunks z (v.cells.length / z) v.cells).length, x.cells.size⟩) (S := S) (w := w.alloc (.cells x.cells t)) site 0 0 ⟨.cells, w.heap.size, 0, z, (chunks z (v.cells.length / z) v.cells).length, x.cells.size⟩
    (by unfold upd; rw [if_pos rfl]) rfl (by rw [chunks_len]; exact hn)
  simpa using this
end
end Go.Proofs.YthhpdnlfhofanaaGreatDoor
namespace Go.Proofs.YthhpdnlfhofanaaGreatDoor
open Go.RowKit
set_option linter.unusedVariables false
set_option linter.unusedSimpArgs false
section
variable {gl : Gl} {P : Program} {C : Ctx} {m : Gh} {S : Nat → Prop} {h : Heap} {w : World}
theorem flat_replicate {z : Nat} {c : List V} {x : List Value} (hx : RVs m S w c x) (hl : c.length = z) (ht : ∀ v ∈ c, V.isTree v = true) : ∀ n : Nat, Flat m S w z (List.replicate n c) (List.replicate n x).flatten
  | 0 => .nil
  | n + 1 => by
    rw [List.replicate_succ, List.replicate_succ, List.flatten_cons]
    exact Flat.cons hx hl ht (flat_replicate hx hl ht n)
theorem madeCells_flatten (z : Array Value) (n : Nat) (hz : 1 ≤ z.size) : madeCells z (n * z.size) = ((List.replicate n z.toList).flatten).toArray := by
  apply Array.ext'
  have key : ∀ n : Nat, (List.range (n * z.size)).map (fun q => z[q % z.size]!) = (List.replicate n z.toList).flatten := by
    intro n
    induction n with
    | zero => simp
    | succ n ih =>
      rw [List.replicate_succ', List.flatten_append, ← ih, Nat.add_mul, Nat.one_mul, List.range_add, List.map_append, List.map_map]
      congr 1
      apply List.ext_getElem?
      intro q
      simp only [List.flatten_singleton, List.getElem?_map, Function.comp]
      by_cases hq : q < z.size
      · rw [List.getElem?_range hq]
        show some (z[(n * z.size + q) % z.size]!) = z.toList[q]?
        rw [show (n * z.size + q) % z.size = q by rw [Nat.add_comm, Nat.add_mul_mod_self_right]; exact Nat.mod_eq_of_lt hq]
        rw [getElem!_pos z q hq, Array.getElem?_toList, Array.getElem?_eq_getElem hq]
      · rw [List.getElem?_eq_none (by simpa using hq)]
        simp; omega
  simp only [madeCells, Array.toList_map, Array.toList_range]
  exact key n
theorem zero_flat {n : Nat} {z : Array Value} (hz : 1 ≤ z.size) : (Builtin.zeroCells z n).toList = (List.replicate n z.toList).flatten := by
  have := madeCells_flatten z n hz
  have e : Builtin.zeroCells z n = madeCells z (n * z.size) := rfl
  rw [e, this]
theorem makeSlice_run (hi : Inv C S m h w) {site : Nat} (hs : hget h site = none) {t el : TypeId} {zv : V} {n s : Nat} (hu : P.underlying t = some (.slice el)) (hn : bytesT P el = some n) (hsz : szT P el = some s)
    (hz : zeroT P el = some zv) {kl kc : IntKind} {l c : Int} (h0 : 0 ≤ l) (hlc : l ≤ c) (hb : c.toNat * n ≤ bytes47) (hc : c.toNat ≤ bytes47) (ht : ∀ v ∈ zv.cells, V.isTree v = true) (hzl : zv.cells.length = s) (hs1 : 1 ≤ s) :
    ∃ m' y w', (Instr.makeSlice t (.int kl l) (.int kc c)).run P w = .ok y w' ∧ Ext C S m w S m' ((site, ⟨true, false, true, List.replicate c.toNat zv.cells, 0⟩) :: h) w' ∧ RV m' S w' (.ref site 0 l.toNat c.toNat) y := by
  obtain ⟨zx, _, hzx, _, j, hj, hjz⟩ := run_zero (P := P) (m := m) (S := S) hz w
  obtain ⟨j', hj', hjs⟩ := szT_info hsz
  rw [hj] at hj'; injection hj' with hj'; subst hj'
  have hjb : j.bytes = n := by unfold bytesT at hn; rw [hj] at hn; simpa using hn
  have hcs : zx.cells.size = j.size := by have := hzx.cells.1; simp at this; omega
  have hbig : c.toNat ≤ 140737488355328 := hc
  have hrun := run_make (P := P) w t el j zx hu hj hjz kl kc l c h0 hlc (by
    rw [hjb]
    have : (c.toNat * n : Nat) ≤ 140737488355328 := hb
    have e : (n : Int) * c = ((c.toNat * n : Nat) : Int) := by rw [Int.natCast_mul, Int.toNat_of_nonneg (by omega), Int.mul_comm]
    rw [e]; omega) (by omega)
  have hf := flat_replicate hzx.cells hzl ht c.toNat
  obtain ⟨m', hx, hv⟩ := newRow_ext hi hs hf hs1 el l.toNat (by simp; omega)
  rw [← hcs, madeCells_flatten _ _ (by omega)] at hrun
  simp only [List.length_replicate] at hv
  exact ⟨m', _, _, hrun, hx, hv⟩
theorem buildSlice_run (hi : Inv C S m h w) {site : Nat} {t el : TypeId} {n z : Nat} {ps : List (Nat × Operand)} {ts : Tmps} {a : Act} (htr : TR gl m S w ts a) {vs : List (Nat × V)} {es es' : List (List V)} {ids rr rr2 rr3 : List Nat} {u b : Upd}
    (hu : P.underlying t = some (.slice el)) (hsz : szT P el = some z) (hz1 : 1 ≤ z) (hnz : n * z ≤ 16777216) (hpv : evParts gl ts ps = some vs) (hin : inOrder z 0 vs = some es) (hl : es.length = n) {zv : V} (hzero : zeroT P el = some zv) (hzl : zv.cells.length = z)
    (htree : treeEs es h = some ((es', ids), rr)) (hfr : freeze ids h = some (u, rr2)) (hnew : newB site ⟨true, false, true, es', 0⟩ h = some (b, rr3)) :
    ∃ S' m' y w', (Instr.buildSlice t n (ps.toArray.map fun x => (x.1, a.eval x.2))).run P w = .ok y w' ∧ Ext C S m w S' m' ((b ++ u) ++ h) w' ∧ RV m' S' w' (.ref site 0 n n) y := by
  have hp := parts_run htr hpv
  obtain ⟨zx, hzr, hzx, _, j, hj, hjz⟩ := run_zero (P := P) (m := m) (S := S) hzero w
  have hcs : zx.cells.size = z := by have := hzx.cells.1; simp at this; omega
  obtain ⟨hsite, rfl⟩ := inv_newB hnew
  let zero : Array Value := if n * z = 0 then #[] else zx.cells
  have hlen0 : ((Array.range (n * z)).map (zero[· % zero.size]!)).toList.length = (0 + vs.length) * z := by
    have : vs.length = n := by
      obtain ⟨xs, _, h2, _⟩ := inOrder_run (m := m) (S := S) (w := w) (cur := List.replicate ((0 + vs.length) * z) undef) hin hp (by simp)
      omega
    simp [this]
  obtain ⟨xs, h1, h2, h3, h4, h5⟩ := inOrder_run hin hp hlen0
  obtain ⟨S1, hx1, hf1, hg1, hn1⟩ := freeze_run hfr hi
  obtain ⟨ht, _, hq⟩ := treeEs_run htree hi h1.symm (fun i c x hc hx => (h3 i c x hc hx).2)
  obtain ⟨hl', hr'⟩ := hq S1 hx1.sub hf1
  have hflat : Flat m S1 w z es' xs.flatten := flat_flatten (by omega) (fun i c x hc hx => ⟨by
    have hes : ∃ c0, es[i]? = some c0 := ⟨_, List.getElem?_eq_getElem (by have := lt_of_get hc; omega)⟩
    obtain ⟨c0, hc0⟩ := hes
    have := h3 i c0 x hc0 hx
    have := (hr' i c x hc hx).1
    have := (h3 i c0 x hc0 hx).2.1
    omega, hr' i c x hc hx⟩) ht
  have hsite1 : hget (u ++ h) site = none := by
    cases hq : hget (u ++ h) site with
    | none => rfl
    | some b' =>
      by_cases hmem : site ∈ ids
      · obtain ⟨_, hok, _⟩ := treeEs_run htree hi h1.symm (fun i c x hc hx => (h3 i c x hc hx).2)
        obtain ⟨b0, hb0, _⟩ := hok site hmem
        rw [hsite] at hb0; cases hb0
      · rw [hn1 site hmem, hsite] at hq; cases hq
  have hn' : es'.length = n := by omega
  obtain ⟨m', hx2, hv⟩ := newRow_ext hx1.inv hsite1 hflat hz1 el n (by omega)
  rw [hn'] at hv
  refine ⟨S1, m', _, _, ?_, hx1.trans hx2, hv⟩
  have h5' : Instr.fill (fun i => some (i * z, z)) ((Array.range (n * z)).map (zero[· % zero.size]!)) (ps.map fun x => (x.1, a.eval x.2)) = some xs.flatten.toArray := by
    have e : ((Array.range (n * z)).map (zero[· % zero.size]!)) = ⟨((Array.range (n * z)).map (zero[· % zero.size]!)).toList⟩ := rfl
    rw [e, h5]; simp
  simp only [Instr.buildSlice, Sem.run_bind, run_underlying hu, Result.andThen_ok, run_sizeOf hsz, Sem.run_ite]
  rw [if_neg (by omega)]
  by_cases h0 : n * z = 0
  · have hz0 : zero = #[] := if_pos h0
    rw [hz0] at h5'
    rw [if_pos h0]
    simp only [List.map_toArray, h5', newRow, Sem.run_bind, run_newObj, Sem.run_pure, Result.andThen_ok]
    rfl
  · have hz0 : zero = zx.cells := if_neg h0
    rw [hz0] at h5'
    rw [if_neg h0]
    simp only [hzr, Result.andThen_ok, List.map_toArray, h5', newRow, Sem.run_bind, run_newObj, Sem.run_pure]
    rfl
theorem buildSlice0_run {t el : TypeId} {z : Nat} (hu : P.underlying t = some (.slice el)) (hsz : szT P el = some z) :
    (Instr.buildSlice t 0 #[]).run P w = .ok (.slice (some ⟨w.heap.size, 0, none⟩) 0 0) (w.alloc (.cells #[] el)) := by
  simp only [Instr.buildSlice, Sem.run_bind, run_underlying hu, Result.andThen_ok, run_sizeOf hsz, Sem.run_ite]
  rw [if_neg (by omega)]
  have h0 : ∀ f : Nat → Value, Array.map f (Array.range 0) = #[] := fun f => Array.eq_empty_of_size_eq_zero (by simp)
  simp [Instr.fill, newRow, Sem.run_bind, run_newObj, Sem.run_pure, Result.andThen_ok, h0]
/-- Cells of a slice of an own row, as firstCells reads them. -/
theorem copy_run {t t' ty el : TypeId} {i : TypeInfo} {z : Nat} (ht : P.underlying t = some (.slice el)) (hi : P.info? el = some i) (hz : i.size = z)
    {g o dLen dCap n : Nat} {vs : List Value} {arr : Array Value} {te : TypeId} (hg : w.heap[g]? = some (.cells arr te (0, 0)))
    {Y : Value} (hs : SrcR P w z Y n vs) (hvl : vs.length = n * z) (h1c : ∀ u ∈ vs, u.oneCell' = true) (hfit : o + (vs.take (min n dLen * z)).length ≤ arr.size) :
    (Builtin.copy_ #[t, t'] ty #[.slice (some ⟨g, o, none⟩) dLen dCap, Y]).run P w =
      .ok (.int .i64 (min n dLen : Nat)) (w.setRow g (arr.toList.take o ++ vs.take (min n dLen * z) ++ arr.toList.drop (o + (vs.take (min n dLen * z)).length)).toArray) := by
  subst hz
  have h1 := (hs w rfl).1
  have h2 := (hs w rfl).2 (min n dLen) (Nat.min_le_left _ _)
  have hst := run_storeCells_at P g o te (vs.take (min n dLen * i.size)) 0 arr w hg (by simpa using hfit) (fun u hu => h1c u (List.mem_of_mem_take hu))
  simp only [Nat.add_zero] at hst
  simp only [Builtin.copy_, List.getElem?_toArray]
  simp only [List.getElem?_cons_zero, List.getElem?_cons_succ, Sem.run_bind, run_underlying ht, Result.andThen_ok, h1, sizeOf, typeInfo, run_program, hi, Sem.run_pure]
  have h2' : (Builtin.firstCells i.size (Nat.min n dLen) Y).run P w = .ok (vs.take (min n dLen * i.size)).toArray w := h2
  simp only [h2', Result.andThen_ok, hst, goInt]
theorem copy_zero {t t' ty el : TypeId} {i : TypeInfo} {z n : Nat} {vs : List Value} (ht : P.underlying t = some (.slice el)) (hi : P.info? el = some i) (hz : i.size = z) {A : Option Addr} {Y : Value} (hs : SrcR P w z Y n vs) :
    (Builtin.copy_ #[t, t'] ty #[.slice A 0 0, Y]).run P w = .ok (.int .i64 0) w := by
  subst hz
  have h1 := (hs w rfl).1
  have h2 := (hs w rfl).2 0 (Nat.zero_le _)
  simp only [Nat.zero_mul, List.take_zero] at h2
  have h2' : (Builtin.firstCells i.size (Nat.min n 0) Y).run P w = .ok #[] w := by
    rw [show Nat.min n 0 = 0 from Nat.min_zero _]; simpa using h2
  simp only [Builtin.copy_, List.getElem?_toArray]
  simp only [List.getElem?_cons_zero, List.getElem?_cons_succ, Sem.run_bind, run_underlying ht, Result.andThen_ok, h1, sizeOf, typeInfo, run_program, hi, Sem.run_pure, h2']
  have e0 : Nat.min n 0 = 0 := Nat.min_zero _
  cases A <;> simp [storeCells, goInt, e0]
theorem copyV_run {z : Nat} {s x : V} {q : V × Upd} {rr : List Nat} (e : copyV z s x h = some (q, rr)) (hi : Inv C S m h w) {t t' ty el : TypeId} (ht : P.underlying t = some (.slice el)) (hsz : szT P el = some z) (hz1 : 1 ≤ z)
    {X Y : Value} (hX : RV m S w s X) (hY : RV m S w x Y) :
    ∃ w' y, (Builtin.copy_ #[t, t'] ty #[X, Y]).run P w = .ok y w' ∧ Ext C S m w S m (q.2 ++ h) w' ∧ RV m S w' q.1 y := by
  obtain ⟨inf, hinf, hinz⟩ := szT_info hsz
  unfold copyV at e
  obtain ⟨es, r1, r2, e1, e2, _⟩ := M.inv_bind e
  obtain ⟨_, r3, r4, e3, e4, _⟩ := M.inv_bind e2
  obtain ⟨hhead, _⟩ := M.inv_guard e3
  obtain ⟨vs, hf, hsrc⟩ := elemsOf_run (P := P) e1 hi hY hz1 hhead
  split at e4
  · rename_i a off len cm
    obtain ⟨b, r5, r6, e5, e6, _⟩ := M.inv_bind e4
    obtain ⟨hs, hl, _⟩ := M.inv_rdl e5
    obtain ⟨_, r7, r8, e7, e8, _⟩ := M.inv_bind e6
    obtain ⟨hg, _⟩ := M.inv_guard e7
    simp only [Bool.and_eq_true, Bool.not_eq_true'] at hg
    obtain ⟨⟨hw, hbox⟩, hhead2⟩ := hg
    obtain ⟨rfl, _⟩ := M.inv_pure e8
    rcases ref_cells hi hX hs hl with ⟨A, r0, rfl, rfl, rfl, _, _⟩ | ⟨r, arr, tyr, fr, cap, hm, hk, rfl, hoff, hlc, hcc, hct, hh, hfr, htot, hfit, hs1, hem, hlen, hrow, hleaf, hcell⟩
    · refine ⟨w, .int .i64 0, copy_zero ht hinf hinz hsrc, same_ext hi hs ?_, ?_⟩
      · cases b; simp_all
      · simp only [Nat.min_zero]
        exact .int _ _
    · obtain rfl := hfr hw
      have hn : min es.length len ≤ len := Nat.min_le_right _ _
      have hft := hf.take (min es.length len)
      have hftl := hft.1
      have hlt : (es.take (min es.length len)).length = min es.length len := by rw [List.length_take]; omega
      rw [hlt] at hftl
      by_cases h0 : min es.length len = 0
      · have hrun := copy_run (P := P) (t' := t') (ty := ty) ht hinf hinz hh hsrc hf.1 hf.one (o := r.base + off * r.sz) (dLen := len) (dCap := cap) (by
          rw [hftl, h0]; have := Nat.mul_le_mul_right r.sz (show off ≤ r.len by omega); omega)
        rw [h0] at hrun ⊢
        simp only [Nat.zero_mul, List.take_zero, List.append_nil, List.length_nil, Nat.add_zero, List.take_append_drop] at hrun
        have hx := write_row hi hs hl hw hm hk hh htot hfit hlen hrow hleaf hcell (Flat.nil (m := m) (S := S) (w := w) (z := r.sz)) (k := off) (by simp; omega)
        simp only [List.append_nil, List.length_nil, Nat.add_zero, List.take_append_drop] at hx
        refine ⟨_, _, hrun, by simpa using hx, ?_⟩
        exact .int _ _
      · have hrz : r.sz = z := headOk_len hhead2 (fun i c hc => (hcell i c hc).1) 0 _ (List.getElem?_eq_getElem (by omega))
        have hmul := Nat.mul_le_mul_right r.sz (show off + min es.length len ≤ r.len by omega)
        rw [Nat.add_mul] at hmul
        have hrun := copy_run (P := P) (t' := t') (ty := ty) ht hinf hinz hh hsrc hf.1 hf.one (o := r.base + off * r.sz) (dLen := len) (dCap := cap) (by rw [hftl, ← hrz]; omega)
        have hft' : Flat m S w r.sz (es.take (min es.length len)) (vs.take (min es.length len * z)) := by rw [hrz]; exact hft
        have hx := write_row hi hs hl hw hm hk hh htot hfit hlen hrow hleaf hcell hft' (k := off) (by rw [hlt]; omega)
        rw [hlt] at hx
        exact ⟨_, _, hrun, by simpa using hx, .int _ _⟩
  · obtain ⟨rfl, _⟩ := M.inv_pure e4
    cases hX
    exact ⟨w, _, copy_zero ht hinf hinz hsrc, Ext.refl hi, .int _ _⟩
  · obtain ⟨rfl, _⟩ := M.inv_pure e4
    cases hX
    exact ⟨w, _, copy_zero ht hinf hinz hsrc, Ext.refl hi, .int _ _⟩
  · cases e4
end
end Go.Proofs.YthhpdnlfhofanaaGreatDoor
namespace Go.Proofs.YthhpdnlfhofanaaGreatDoor
open Go.RowKit
set_option linter.unusedVariables false
set_option linter.unusedSimpArgs false
section
variable {P : Program} {C : Ctx} {m : Gh} {S : Nat → Prop} {h : Heap} {w : World}
theorem clear_run (hi : Inv C S m h w) {t ty el : TypeId} {zv : V} {z : Nat} (ht : P.underlying t = some (.slice el)) (hsz : szT P el = some z) (hz : zeroT P el = some zv) (hzl : zv.cells.length = z) (htree : ∀ v ∈ zv.cells, V.isTree v = true)
    {a off len cm : Nat} {X : Value} (hX : RV m S w (.ref a off len cm) X) {b : Bk} (hs : hget h a = some b) (hl : b.live = true) (hw : b.wr = true) (hbox : b.box = false) (hhead : headOk z b.elems = true) (hz1 : 1 ≤ z) :
    ∃ w', (Builtin.clear_ #[t] ty #[X]).run P w = .ok (.tuple #[]) w' ∧ Ext C S m w S m ((a, { b with elems := b.elems.take off ++ List.replicate len zv.cells ++ b.elems.drop (off + len) }) :: h) w' := by
  obtain ⟨zx, hzr, hzx, _⟩ := run_zero (P := P) (m := m) (S := S) hz w
  have hcs : zx.cells.size = z := by have := hzx.cells.1; simp at this; omega
  rcases ref_cells hi hX hs hl with ⟨A, r0, rfl, rfl, rfl, _, _⟩ | ⟨r, arr, tyr, fr, cap, hm, hk, rfl, hoff, hlc, hcc, hct, hh, hfr, htot, hfit, hs1, hem, hlen, hrow, hleaf, hcell⟩
  · refine ⟨w, ?_, same_ext hi hs ?_⟩
    · simp only [Builtin.clear_, List.getElem?_toArray]
      simp only [List.getElem?_cons_zero, Sem.run_bind, run_underlying ht, Result.andThen_ok]
      cases A <;> rfl
    · cases b; simp_all
  · obtain rfl := hfr hw
    by_cases h0 : len = 0
    · subst h0
      refine ⟨w, ?_, same_ext hi hs ?_⟩
      · simp only [Builtin.clear_, List.getElem?_toArray]
        simp only [List.getElem?_cons_zero, Sem.run_bind, run_underlying ht, Result.andThen_ok]
        rfl
      · cases b; simp_all
    · have hrz : r.sz = z := headOk_len hhead (fun i c hc => (hcell i c hc).1) 0 _ (List.getElem?_eq_getElem (by omega))
      have hf := flat_replicate hzx.cells hzl htree len
      have hfl := hf.1
      rw [List.length_replicate] at hfl
      have hmul := Nat.mul_le_mul_right r.sz (show off + len ≤ r.len by omega)
      rw [Nat.add_mul] at hmul
      have hst := run_storeCells_at P r.blk (r.base + off * r.sz) tyr (List.replicate len zx.cells.toList).flatten 0 arr w hh (by rw [hfl, ← hrz]; omega) hf.one
      simp only [Nat.add_zero] at hst
      have hf' : Flat m S w r.sz (List.replicate len zv.cells) (List.replicate len zx.cells.toList).flatten := by rw [hrz]; exact hf
      have hx := write_row hi hs hl hw hm hk hh htot hfit hlen hrow hleaf hcell hf' (k := off) (by simp; omega)
      simp only [List.length_replicate] at hx
      refine ⟨_, ?_, hx⟩
      obtain ⟨len, rfl⟩ : ∃ k, len = k + 1 := ⟨len - 1, by omega⟩
      simp only [Builtin.clear_, List.getElem?_toArray]
      simp only [List.getElem?_cons_zero, Sem.run_bind, run_underlying ht, Result.andThen_ok, hzr]
      rw [zero_flat (by omega), hst]
      rfl
theorem inv_bound {y : Nat} {o : Option V} {r : Option Nat} (e : boundOf y o = some r) : (o = none ∧ r = none) ∨ ∃ k n, o = some (.int k n) ∧ 0 ≤ n ∧ n ≤ y ∧ r = some n.toNat := by
  unfold boundOf at e
  split at e
  · injection e with e; exact .inl ⟨rfl, e.symm⟩
  · rename_i k n
    simp only [Bool.cond_eq_ite] at e
    split at e
    · rename_i hg
      simp only [Bool.and_eq_true] at hg
      injection e with e
      exact .inr ⟨k, n, rfl, of_decide_eq_true hg.1, of_decide_eq_true hg.2, e.symm⟩
    · cases e
  · cases e
theorem bound_run {k : IntKind} {n : Int} {y : Nat} (h0 : 0 ≤ n) (h1 : n ≤ y) (code : BoundsCode) (w : World) : (Instr.sliceBound (.int k n) y code).run P w = .ok n.toNat w := by
  simp [Instr.sliceBound, asIntOf, h0, h1]
/-- A value that may be left out. -/
def RO (m : Gh) (S : Nat → Prop) (w : World) (o : Option V) (x : Option Value) : Prop :=
  (o = none ∧ x = none) ∨ ∃ v y, o = some v ∧ x = some y ∧ RV m S w v y
theorem RO.int {o : Option V} {x : Option Value} (hr : RO m S w o x) {k : IntKind} {n : Int} (e : o = some (.int k n)) : x = some (.int k n) := by
  rcases hr with ⟨rfl, _⟩ | ⟨v, y, rfl, rfl, hv⟩
  · cases e
  · injection e with e; subst e; cases hv; rfl
theorem RO.none {o : Option V} {x : Option Value} (hr : RO m S w o x) (e : o = none) : x = none := by
  rcases hr with ⟨_, rfl⟩ | ⟨v, y, rfl, rfl, hv⟩
  · rfl
  · cases e
theorem bounds_run {sl : Bool} {len cm cap l h' mm : Nat} {lo hi mx : Option V} {xlo xhi xmx : Option Value} (hlo : RO m S w lo xlo) (hhi : RO m S w hi xhi) (hmx : RO m S w mx xmx) (e : boundsV len cm lo hi mx = some (l, h', mm)) (hsl : sl = true ∨ mx = none) (hc : cm ≤ cap) (hlc : len ≤ cm) (w1 : World) :
    (Instr.sliceBounds sl len cap xlo xhi xmx).run P w1 = .ok (l, h', if mx = none then cap else mm) w1 ∧ l ≤ h' ∧ h' ≤ mm ∧ mm ≤ cm ∧ (mx = none → mm = cm) := by
  cases mx with
  | none =>
    simp only [boundsV] at e
    cases e1 : boundOf cm hi with
    | none => simp only [e1] at e; cases e
    | some r1 =>
      simp only [e1] at e
      cases e2 : boundOf (r1.getD len) lo with
      | none => simp only [e2] at e; cases e
      | some r2 =>
        simp only [e2, Option.some.injEq, Prod.mk.injEq] at e
        obtain ⟨rfl, rfl, rfl⟩ := e
        rw [hmx.none rfl]
        refine ⟨?_, ?_, ?_, Nat.le_refl _, fun _ => rfl⟩
        · rcases inv_bound e1 with ⟨rfl, rfl⟩ | ⟨k, n, rfl, h0, h1, rfl⟩
          · rw [hhi.none rfl]
            rcases inv_bound e2 with ⟨rfl, rfl⟩ | ⟨k', n', rfl, h0', h1', rfl⟩
            · rw [hlo.none rfl]; simp [Instr.sliceBounds]
            · rw [hlo.int rfl]; simp only [Option.getD_none] at h1'; simp [Instr.sliceBounds, bound_run (P := P) h0' h1']
          · rw [hhi.int rfl]
            have h1c : n ≤ cap := by omega
            rcases inv_bound e2 with ⟨rfl, rfl⟩ | ⟨k', n', rfl, h0', h1', rfl⟩
            · rw [hlo.none rfl]; simp [Instr.sliceBounds, bound_run (P := P) h0 h1c]
            · rw [hlo.int rfl]
              simp only [Option.getD_some] at h1'
              simp [Instr.sliceBounds, bound_run (P := P) h0 h1c, bound_run (P := P) h0' h1']
        · rcases inv_bound e2 with ⟨_, rfl⟩ | ⟨k, n, _, h0, h1, rfl⟩
          · simp
          · simp only [Option.getD_some]; omega
        · rcases inv_bound e1 with ⟨_, rfl⟩ | ⟨k, n, _, h0, h1, rfl⟩
          · exact hlc
          · simp only [Option.getD_some]; omega
  | some q =>
    have hslt : sl = true := by rcases hsl with h | h; exact h; cases h
    subst hslt
    simp only [boundsV] at e
    cases e0 : boundOf cm (some q) with
    | none => simp only [e0] at e; cases e
    | some r0 =>
      cases r0 with
      | none => simp only [e0] at e; cases e
      | some m0 =>
        simp only [e0] at e
        cases e1 : boundOf m0 hi with
        | none => simp only [e1] at e; cases e
        | some r1 =>
          cases r1 with
          | none => simp only [e1] at e; cases e
          | some h0 =>
            simp only [e1] at e
            cases e2 : boundOf h0 lo with
            | none => simp only [e2] at e; cases e
            | some r2 =>
              simp only [e2, Option.some.injEq, Prod.mk.injEq] at e
              obtain ⟨rfl, rfl, rfl⟩ := e
              rcases inv_bound e0 with ⟨h, _⟩ | ⟨k0, n0, hq, h00, h01, h⟩
              · cases h
              · injection h with h; subst h
                rw [hmx.int hq]
                have h01c : n0 ≤ cap := by omega
                rcases inv_bound e1 with ⟨_, h⟩ | ⟨k, n, hq1, h0, h1, h⟩
                · cases h
                · injection h with h; subst h
                  rw [hhi.int hq1]
                  refine ⟨?_, ?_, by omega, by omega, fun h => by cases h⟩
                  · rw [if_neg (by simp)]
                    rcases inv_bound e2 with ⟨hq2, rfl⟩ | ⟨k', n', hq2, h0', h1', rfl⟩
                    · rw [hlo.none hq2]; simp [Instr.sliceBounds, bound_run (P := P) h00 h01c, bound_run (P := P) h0 h1]
                    · rw [hlo.int hq2]
                      simp [Instr.sliceBounds, bound_run (P := P) h00 h01c, bound_run (P := P) h0 h1, bound_run (P := P) h0' h1']
                  · rcases inv_bound e2 with ⟨_, rfl⟩ | ⟨k', n', _, h0', h1', rfl⟩
                    · simp
                    · simp only [Option.getD_some]; omega
theorem slice_str_run {t : TypeId} (hu : P.underlying t = some .string) {x v : V} {lo hi mx : Option V} (e : sliceV true x lo hi mx = some v) {X : Value} {xlo xhi xmx : Option Value} (hX : RV m S w x X) (hlo : RO m S w lo xlo) (hhi : RO m S w hi xhi) (hmx : RO m S w mx xmx) :
    ∃ y, (Instr.sliceAt t X xlo xhi xmx).run P w = .ok y w ∧ RV m S w v y := by
  cases x with
  | str s =>
    simp only [sliceV] at e
    cases mx with
    | some q => simp only at e; cases e
    | none =>
      simp only at e
      cases e1 : boundsV s.length s.length lo hi none with
      | none => simp only [e1] at e; cases e
      | some r =>
        obtain ⟨l, h', mm⟩ := r
        simp only [e1, Option.some.injEq] at e
        subst e
        cases hX
        refine ⟨.string ⟨⟨(s.drop l).take (h' - l)⟩⟩, ?_, .str _⟩
        obtain ⟨hb, _⟩ := bounds_run (P := P) (sl := false) hlo hhi hmx e1 (.inr rfl) (Nat.le_refl _) (Nat.le_refl _) w
        rw [hmx.none rfl] at hb ⊢
        simp only [Instr.sliceAt, Instr.slice, Sem.run_bind, run_underlying hu, Result.andThen_ok, size_mk, hb]
        simp only [Option.isSome_none, Bool.false_eq_true, if_false, Sem.run_pure, Sem.run_bind, Result.andThen_ok, hb]
        congr 2
        apply ByteArray.ext
        apply Array.ext'
        simp [List.take_drop]
  | _ => simp [sliceV] at e
theorem slice_core {z : Nat} {RUN : Result Value} {sl : Bool} (hi0 : Inv C S m h w) {x v : V} {lo hi mx : Option V} (hsl : sl = true ∨ mx = none) (e : sliceV false x lo hi mx = some v)
    (hx1 : ∀ s a b c, x = .ref s a b c → ∃ b, hget h s = some b ∧ b.live = true ∧ headOk z b.elems = true) (hx2 : ∀ xs, x = .lst xs → headOk z xs = true)
    {X : Value} {xlo xhi xmx : Option Value} (hX : RV m S w x X) (hlo : RO m S w lo xlo) (hhi : RO m S w hi xhi) (hmx : RO m S w mx xmx)
    (real : ∀ {A : Option Addr} {len cap l h' mm : Nat}, X = .slice A len cap → (Instr.sliceBounds sl len cap xlo xhi xmx).run P w = .ok (l, h', mm) w →
      RUN = .ok (.slice (if mm = l then A else A.map (·.add (l * z))) (h' - l) (mm - l)) w) :
    ∃ y, RUN = .ok y w ∧ RV m S w v y := by
  have zero : ∀ {A : Option Addr} {r}, X = .slice A 0 0 → boundsV 0 0 lo hi mx = some r → RUN = .ok (.slice A 0 0) w := by
    intro A r hXA hb
    obtain ⟨l, h', mm⟩ := r
    obtain ⟨h1, h2, h3, h4, _⟩ := bounds_run (P := P) (sl := sl) hlo hhi hmx hb hsl (Nat.le_refl _) (Nat.le_refl _) w
    rw [real hXA h1]
    obtain rfl : mm = 0 := by omega
    obtain rfl : h' = 0 := by omega
    obtain rfl : l = 0 := by omega
    simp
  cases x with
  | ref s off len cm =>
    obtain ⟨b, hs, hl, hhead⟩ := hx1 _ _ _ _ rfl
    simp only [sliceV] at e
    cases e1 : boundsV len cm lo hi mx with
    | none => simp only [e1] at e; cases e
    | some r =>
      obtain ⟨l, h', mm⟩ := r
      simp only [e1] at e
      rcases ref_cells hi0 hX hs hl with ⟨A, r0, rfl, rfl, rfl, _, _⟩ | ⟨r, arr, tyr, fr, cap, hm, hk, rfl, hoff, hlc, hcc, hct, hh, hfr, htot, hfit, hs1, hem, hlen, hrow, hleaf, hcell⟩
      · obtain ⟨h1, h2, h3, h4, _⟩ := bounds_run (P := P) (sl := sl) hlo hhi hmx e1 hsl (Nat.le_refl _) (Nat.le_refl _) w
        obtain rfl : mm = 0 := by omega
        obtain rfl : h' = 0 := by omega
        obtain rfl : l = 0 := by omega
        refine ⟨_, zero rfl e1, ?_⟩
        cases hmxs : mx.isSome with
        | true => simp [hmxs] at e; subst e; exact .emp A
        | false => simp [hmxs] at e; subst e; exact hX
      · obtain ⟨h1, h2, h3, h4, h5⟩ := bounds_run (P := P) (sl := sl) hlo hhi hmx e1 hsl hcc hlc w
        refine ⟨_, real rfl h1, ?_⟩
        have hrz : 0 < l → r.sz = z := fun h0 => headOk_len hhead (fun i c hc => (hcell i c hc).1) 0 _ (List.getElem?_eq_getElem (by omega))
        have addr : ∀ q : Nat, (if q = l then some (⟨r.blk, r.base + off * r.sz, none⟩ : Addr) else (some (⟨r.blk, r.base + off * r.sz, none⟩ : Addr)).map (·.add (l * z))) = if q = l then some ⟨r.blk, r.base + off * r.sz, none⟩ else some ⟨r.blk, r.base + (off + l) * r.sz, none⟩ := by
          intro q
          split
          · rfl
          · simp only [Option.map_some, cell_add]
            rcases Nat.eq_zero_or_pos l with h0 | h0
            · subst h0; simp
            · rw [← hrz h0, Nat.add_mul]; congr 2; omega
        rw [addr]
        cases hmxs : mx.isSome with
        | false =>
          have hmxn : mx = none := by cases mx <;> simp_all
          simp only [hmxs, Bool.false_and, cond_false, Option.some.injEq] at e
          subst e
          rw [if_pos hmxn]
          have hmm := h5 hmxn
          subst hmm
          by_cases hcl : cap = l
          · rw [if_pos hcl]
            have e1 : h' = l := by omega
            have e2 : mm = l := by omega
            subst e1
            rw [e2, hcl]
            simp only [Nat.sub_self]
            exact .refN s _ r _ hm ⟨(fun h => by rw [hk] at h; cases h), (fun _ => .inr ⟨_, rfl⟩), .inr hk⟩
          · rw [if_neg hcl]
            have hm2 : (off + cap) * r.sz = (off + l + (cap - l)) * r.sz := by congr 1; omega
            exact .ref s (off + l) (h' - l) (mm - l) (cap - l) r hm hk (by omega) (by omega) (by omega) (by rw [← hm2]; exact hct)
        | true =>
          have hmxn : ¬ mx = none := by cases mx <;> simp_all
          rw [if_neg hmxn]
          by_cases hml : mm = l
          · subst hml
            simp [hmxs] at e; subst e
            rw [if_pos rfl]
            obtain rfl : h' = mm := by omega
            simp only [Nat.sub_self]
            exact .emp _
          · have hb : Nat.beq mm l = false := by rw [← Bool.not_eq_true, Nat.beq_eq]; exact hml
            simp only [hmxs, hb, Bool.and_false, cond_false, Option.some.injEq] at e
            subst e
            rw [if_neg hml]
            have hm2 : (off + l + (mm - l)) * r.sz ≤ (off + cap) * r.sz := Nat.mul_le_mul_right _ (by omega)
            exact .ref s (off + l) (h' - l) (mm - l) (mm - l) r hm hk (by omega) (by omega) (Nat.le_refl _) (by omega)
  | lst xs =>
    have hhead := hx2 _ rfl
    simp only [sliceV] at e
    cases e1 : boundsV xs.length xs.length lo hi mx with
    | none => simp only [e1] at e; cases e
    | some r =>
      obtain ⟨l, h', mm⟩ := r
      simp only [e1] at e
      have fin : ∀ {A : Option Addr} {cap : Nat}, xs.length ≤ cap → X = .slice A xs.length cap → (xs = [] ∨ ∃ (b off : Nat) (u : Nat → Nat → Value), A = some (⟨b, off, none⟩ : Addr) ∧ S b ∧
          (∀ (i : Nat) (c : List V) (j : Nat) v, xs[i]? = some c → c[j]? = some v → w.cell? ⟨b, off + i * z + j, none⟩ = some (u i j)) ∧ (∀ (i : Nat) (c : List V), xs[i]? = some c → c.length = z) ∧
          (∀ (i : Nat) (c : List V) (j : Nat) v, xs[i]? = some c → c[j]? = some v → V.isTree v = true) ∧ (∀ (i : Nat) (c : List V) (j : Nat) v, xs[i]? = some c → c[j]? = some v → RV m S w v (u i j))) →
          ∃ y, RUN = .ok y w ∧ RV m S w v y := by
        intro A cap hc hXA hcase
        obtain ⟨h1, h2, h3, h4, h5⟩ := bounds_run (P := P) (sl := sl) hlo hhi hmx e1 hsl hc (Nat.le_refl _) w
        refine ⟨_, real hXA h1, ?_⟩
        by_cases hemp : mx.isSome = true ∧ mm = l
        · obtain ⟨hms, rfl⟩ := hemp
          simp [hms] at e; subst e
          have hmn : ¬ mx = none := by cases mx <;> simp_all
          rw [if_neg hmn]
          obtain rfl : h' = mm := by omega
          simp only [Nat.sub_self]
          exact .emp _
        · have e' : v = .lst ((xs.drop l).take (h' - l)) := by
            have hb : (mx.isSome && Nat.beq mm l) = false := by
              cases hms : mx.isSome with
              | false => rfl
              | true =>
                have : ¬ mm = l := fun h => hemp ⟨hms, h⟩
                have hb : Nat.beq mm l = false := by rw [← Bool.not_eq_true, Nat.beq_eq]; exact this
                rw [hb]; rfl
            simp only [hb, cond_false, Option.some.injEq] at e
            exact e.symm
          subst e'
          have hlen : ((xs.drop l).take (h' - l)).length = h' - l := by simp; omega
          by_cases h0 : h' - l = 0
          · have hnil : (xs.drop l).take (h' - l) = [] := List.eq_nil_of_length_eq_zero (by omega)
            rw [hnil, h0]
            exact .lst0 _ _
          · rcases hcase with rfl | ⟨b, off, u, rfl, hSb, hc1, hc2, hc3, hc4⟩
            · simp at h4; omega
            · have get : ∀ {i : Nat} {c : List V}, ((xs.drop l).take (h' - l))[i]? = some c → xs[l + i]? = some c := by
                intro i c hc
                rw [List.getElem?_take] at hc
                split at hc
                · rwa [List.getElem?_drop] at hc
                · cases hc
              have hcapl : ∃ q, (if mx = none then cap else mm) = q ∧ l < q ∧ h' - l ≤ q - l := ⟨_, rfl, by split <;> omega, by split <;> omega⟩
              obtain ⟨q, hq, hq1, hq2⟩ := hcapl
              rw [hq, if_neg (by omega)]
              simp only [Option.map_some, cell_add]
              have := RV.lst (m := m) (S := S) (w := w) ((xs.drop l).take (h' - l)) b (off + l * z) z (q - l) (fun i j => u (l + i) j) hSb (by omega) (fun i c hc => hc2 _ c (get hc))
                (fun i c j v hc hv => by
                  have := hc1 _ c j v (get hc) hv
                  rw [← this]; congr 2; rw [Nat.add_mul]; omega) (fun i c j v hc hv => hc3 _ c j v (get hc) hv) (fun i c j v hc hv => hc4 _ c j v (get hc) hv)
              rwa [hlen] at this
      cases hX with
      | lst0 a c => exact fin (Nat.zero_le _) rfl (.inl rfl)
      | lst _ b off z' c u g1 g2 g3 g4 g5 g6 =>
        refine fin g2 rfl ?_
        by_cases h0 : xs.length = 0
        · exact .inl (List.eq_nil_of_length_eq_zero h0)
        · have hzz : z' = z := headOk_len hhead g3 0 _ (List.getElem?_eq_getElem (by omega))
          subst hzz
          exact .inr ⟨b, off, u, rfl, g1, g4, g3, g5, g6⟩
  | nils =>
    simp only [sliceV] at e
    cases e1 : boundsV 0 0 lo hi mx with
    | none => simp only [e1] at e; cases e
    | some r =>
      simp only [e1, Option.some.injEq] at e
      subst e
      cases hX
      exact ⟨_, zero rfl e1, .nils⟩
  | emp =>
    simp only [sliceV] at e
    cases e1 : boundsV 0 0 lo hi mx with
    | none => simp only [e1] at e; cases e
    | some r =>
      simp only [e1, Option.some.injEq] at e
      subst e
      cases hX
      exact ⟨_, zero rfl e1, .emp _⟩
  | _ => simp [sliceV] at e
theorem slice_row_run {t el : TypeId} {z : Nat} (hu : P.underlying t = some (.slice el)) (hsz : szT P el = some z) (hi0 : Inv C S m h w) {x v : V} {lo hi mx : Option V} (e : sliceV false x lo hi mx = some v)
    (hx1 : ∀ s a b c, x = .ref s a b c → ∃ b, hget h s = some b ∧ b.live = true ∧ headOk z b.elems = true) (hx2 : ∀ xs, x = .lst xs → headOk z xs = true)
    {X : Value} {xlo xhi xmx : Option Value} (hX : RV m S w x X) (hlo : RO m S w lo xlo) (hhi : RO m S w hi xhi) (hmx : RO m S w mx xmx) :
    ∃ y, (Instr.sliceAt t X xlo xhi xmx).run P w = .ok y w ∧ RV m S w v y := by
  refine slice_core (P := P) (sl := true) hi0 (.inl rfl) e hx1 hx2 hX hlo hhi hmx ?_
  intro A len cap l h' mm hXA hb
  subst hXA
  simp only [Instr.sliceAt, Instr.slice, Sem.run_bind, run_underlying hu, Result.andThen_ok, hb, run_sizeOf hsz, Sem.run_pure]
/-- A slice of an array's variable that is laid as a row. -/
theorem slice_arr_run {t el : TypeId} {n z : Nat} (hu : P.underlying t = some (.array n el)) (hsz : szT P el = some z) (hi0 : Inv C S m h w) {s : Nat} {b : Bk} (hs : hget h s = some b) (hl : b.live = true) (hhead : headOk z b.elems = true) (hn : n ≤ b.elems.length)
    {v : V} {lo hi : Option V} (e : sliceV false (.ref s 0 n n) lo hi none = some v) {X : Value} {xlo xhi : Option Value} (hX : RV m S w (.ptr s 0 0) X) (hlo : RO m S w lo xlo) (hhi : RO m S w hi xhi) :
    ∃ y, (Instr.sliceAt t X xlo xhi none).run P w = .ok y w ∧ RV m S w v y := by
  cases hX with
  | ptr _ _ _ r hm hk hlt =>
    obtain ⟨r', hm', hb⟩ := hi0.bks s b hs hl
    rw [hm] at hm'; injection hm' with hm'; subst hm'
    obtain ⟨arr0, ty0, fr0, g1, g2, g3, g4, g5⟩ := hb.cells hk
    have hlen : b.elems.length = r.len := g5.2.2.1
    have hmul := Nat.mul_le_mul_right r.sz (show n ≤ r.len by omega)
    have hX' : RV m S w (.ref s 0 n n) (.slice (some ⟨r.blk, r.base + 0 * r.sz, none⟩) n n) :=
      .ref s 0 n n n r hm hk (by omega) (Nat.le_refl _) (Nat.le_refl _) (by rw [Nat.zero_add]; omega)
    refine slice_core (P := P) (sl := false) (z := z) hi0 (.inr rfl) e (fun s' a' b' c' he => by injection he with he1; subst he1; exact ⟨b, hs, hl, hhead⟩) (fun xs he => by cases he) hX' hlo hhi (.inl ⟨rfl, rfl⟩) ?_
    intro A len cap l h' mm hXA hb
    injection hXA with h1 h2 h3
    subst h1; subst h2; subst h3
    simp only [Instr.sliceAt, Sem.run_bind, run_underlying hu, Result.andThen_ok, Instr.sureAddr, hb, run_sizeOf hsz, Sem.run_pure]
    simp only [Nat.add_zero, Nat.zero_mul, Option.map_some]
    split <;> rfl
end
end Go.Proofs.YthhpdnlfhofanaaGreatDoor
namespace Go.Proofs.YthhpdnlfhofanaaGreatDoor
open Go.RowKit
set_option linter.unusedVariables false
set_option linter.unusedSimpArgs false
section
variable {P : Program} {C : Ctx} {m : Gh} {S : Nat → Prop} {h : Heap} {w : World}
theorem indexAddr_run {rw' : Option Nat} {t : TypeId} {x i v : V} {rr : List Nat} (e : indexAddrV P rw' t x i h = some (v, rr)) (hi0 : Inv C S m h w) {X I : Value} (hX : RV m S w x X) (hI : RV m S w i I) :
    ∃ y, (Instr.indexAt t X I).run P w = .ok y w ∧ RV m S w v y := by
  unfold indexAddrV at e
  generalize hu : P.underlying t = d at e
  split at e
  · rename_i el s off len cm k n
    obtain ⟨b, r1, r2, e1, e2, _⟩ := M.inv_bind e
    obtain ⟨hs, hl, _⟩ := M.inv_rdl e1
    obtain ⟨z, r3, r4, e3, e4, _⟩ := M.inv_bind e2
    obtain ⟨hz, _⟩ := M.inv_lift e3
    obtain ⟨_, r5, r6, e5, e6, _⟩ := M.inv_bind e4
    obtain ⟨hg, _⟩ := M.inv_guard e5
    simp only [Bool.and_eq_true] at hg
    have h0 := of_decide_eq_true hg.1
    have h1 := of_decide_eq_true hg.2
    cases hc : b.elems[off + n.toNat]? with
    | none => simp only [hc] at e6; cases e6
    | some c =>
      simp only [hc] at e6
      obtain ⟨_, r7, r8, e7, e8, _⟩ := M.inv_bind e6
      obtain ⟨hcz, _⟩ := M.inv_guard e7
      have hcz := beq_nat hcz
      obtain ⟨rfl, _⟩ := M.inv_pure e8
      cases hI
      rcases ref_cells hi0 hX hs hl with ⟨A, r0, rfl, rfl, rfl, _, _⟩ | ⟨r, arr, tyr, fr, cap, hm, hk, rfl, hoff, hlc, hcc, hct, hh, hfr, htot, hfit, hs1, hem, hlen, hrow, hleaf, hcell⟩
      · exfalso; simp only [Int.natCast_zero] at h1; omega
      · have hrz : r.sz = z := by have := (hcell _ c hc).1; omega
        refine ⟨.pointer (some ⟨r.blk, r.base + (off + n.toNat) * r.sz + 0, none⟩), ?_, .ptr s _ 0 r hm hk (by have := lt_of_get hc; omega)⟩
        simp only [Instr.indexAt, asIntOf, Sem.run_bind, Sem.run_pure, Result.andThen_ok, run_underlying hu, run_sizeOf hz, Sem.run_ite]
        rw [if_pos ⟨h0, h1⟩, cell_add, ← hrz, Nat.add_mul, Nat.add_zero, Nat.add_assoc]
  · rename_i el xs k n
    obtain ⟨z, r3, r4, e3, e4, _⟩ := M.inv_bind e
    obtain ⟨hz, _⟩ := M.inv_lift e3
    obtain ⟨_, r5, r6, e5, e6, _⟩ := M.inv_bind e4
    obtain ⟨hg, _⟩ := M.inv_guard e5
    have h0 := of_decide_eq_true hg
    cases hc : xs[n.toNat]? with
    | none => simp only [hc] at e6; cases e6
    | some c =>
      simp only [hc] at e6
      obtain ⟨_, r7, r8, e7, e8, _⟩ := M.inv_bind e6
      obtain ⟨hcz, _⟩ := M.inv_guard e7
      have hcz := beq_nat hcz
      obtain ⟨rfl, _⟩ := M.inv_pure e8
      cases hI
      have hlt := lt_of_get hc
      cases hX with
      | lst0 a cap => simp at hc
      | lst _ b off z' cap u g1 g2 g3 g4 g5 g6 =>
        have hzz : z' = z := by have := g3 _ c hc; omega
        subst hzz
        refine ⟨.pointer (some ⟨b, off + n.toNat * z' + 0, none⟩), ?_, .rptr c 0 b (off + n.toNat * z') (fun j => u n.toNat j) g1 (fun j v hv => g4 _ c j v hc hv) (fun j v hv => g5 _ c j v hc hv) (fun j v hv => g6 _ c j v hc hv)⟩
        simp only [Instr.indexAt, asIntOf, Sem.run_bind, Sem.run_pure, Result.andThen_ok, run_underlying hu, run_sizeOf hz, Sem.run_ite]
        rw [if_pos ⟨h0, by omega⟩, cell_add, Nat.add_zero]
  · rename_i n0 el s j o k n
    obtain ⟨_, r5, r6, e5, e6, _⟩ := M.inv_bind e
    obtain ⟨hg, _⟩ := M.inv_guard e5
    simp only [Bool.and_eq_true] at hg
    have h0 := of_decide_eq_true hg.1
    have h1 := of_decide_eq_true hg.2
    obtain ⟨z, r3, r4, e3, e4, _⟩ := M.inv_bind e6
    obtain ⟨hz, _⟩ := M.inv_lift e3
    cases hI
    have flat : v = .ptr s j (o + n.toNat * z) → ∃ y, (Instr.indexAt t X (.int k n)).run P w = .ok y w ∧ RV m S w v y := by
      rintro rfl
      cases hX with
      | ptr _ _ _ r hm hk hlt =>
        refine ⟨.pointer (some ⟨r.blk, r.base + j * r.sz + (o + n.toNat * z), none⟩), ?_, .ptr s j _ r hm hk hlt⟩
        simp only [Instr.indexAt, asIntOf, Sem.run_bind, Sem.run_pure, Result.andThen_ok, run_underlying hu, run_sizeOf hz, Sem.run_ite, Instr.sureAddr]
        rw [if_pos ⟨h0, h1⟩, cell_add, Nat.add_assoc]
    cases rw' with
    | none =>
      simp only at e4
      obtain ⟨rfl, _⟩ := M.inv_pure e4
      exact flat rfl
    | some q =>
      simp only at e4
      obtain ⟨b, r7, r8, e7, e8, _⟩ := M.inv_bind e4
      obtain ⟨hs, hl, _⟩ := M.inv_rdl e7
      cases hbx : b.box with
      | true =>
        simp only [hbx, cond_true] at e8
        obtain ⟨rfl, _⟩ := M.inv_pure e8
        exact flat rfl
      | false =>
        simp only [hbx, cond_false] at e8
        obtain ⟨_, r9, r10, e9, e10, _⟩ := M.inv_bind e8
        obtain ⟨ho, _⟩ := M.inv_guard e9
        have ho := beq_nat ho
        subst ho
        cases hc : b.elems[j + n.toNat]? with
        | none => simp only [hc] at e10; cases e10
        | some c =>
          simp only [hc] at e10
          obtain ⟨_, r11, r12, e11, e12, _⟩ := M.inv_bind e10
          obtain ⟨hcz, _⟩ := M.inv_guard e11
          have hcz := beq_nat hcz
          obtain ⟨rfl, _⟩ := M.inv_pure e12
          cases hX with
          | ptr _ _ _ r hm hk hlt =>
            obtain ⟨r', hm', hb⟩ := hi0.bks s b hs hl
            rw [hm] at hm'; injection hm' with hm'; subst hm'
            obtain ⟨arr0, ty0, fr0, g1, g2, g3, g4, g5⟩ := hb.cells hk
            have hlen : b.elems.length = r.len := g5.2.2.1
            have hrz : r.sz = z := by have := (g5.2.2.2.2.2 _ c hc).1; omega
            refine ⟨.pointer (some ⟨r.blk, r.base + (j + n.toNat) * r.sz + 0, none⟩), ?_, .ptr s _ 0 r hm hk (by have := lt_of_get hc; omega)⟩
            simp only [Instr.indexAt, asIntOf, Sem.run_bind, Sem.run_pure, Result.andThen_ok, run_underlying hu, run_sizeOf hz, Sem.run_ite, Instr.sureAddr]
            rw [if_pos ⟨h0, h1⟩, cell_add, ← hrz, Nat.add_mul, Nat.add_zero, Nat.add_zero, Nat.add_assoc]
  · rename_i n0 el cs o k n
    obtain ⟨_, r5, r6, e5, e6, _⟩ := M.inv_bind e
    obtain ⟨hg, _⟩ := M.inv_guard e5
    simp only [Bool.and_eq_true] at hg
    have h0 := of_decide_eq_true hg.1
    have h1 := of_decide_eq_true hg.2
    obtain ⟨z, r3, r4, e3, e4, _⟩ := M.inv_bind e6
    obtain ⟨hz, _⟩ := M.inv_lift e3
    obtain ⟨rfl, _⟩ := M.inv_pure e4
    cases hI
    cases hX with
    | rptr _ _ b off u g1 g2 g3 g4 =>
      refine ⟨.pointer (some ⟨b, off + (o + n.toNat * z), none⟩), ?_, .rptr cs _ b off u g1 g2 g3 g4⟩
      simp only [Instr.indexAt, asIntOf, Sem.run_bind, Sem.run_pure, Result.andThen_ok, run_underlying hu, run_sizeOf hz, Sem.run_ite, Instr.sureAddr]
      rw [if_pos ⟨h0, h1⟩, cell_add, Nat.add_assoc]
  · cases e
theorem fieldOf_run {t : TypeId} {f : Nat} {fd : Field} (e : fieldOf P t f = some fd) : ∃ fs, P.underlying t = some (.struct fs) ∧ fs[f]? = some fd := by
  unfold fieldOf at e
  split at e
  · rename_i fs hu
    exact ⟨fs, hu, by simpa using e⟩
  · cases e
theorem fieldAddr_run {t : TypeId} {f : Nat} {fd : Field} {n : Nat} {x v : V} (hf : fieldOf P t f = some fd) (hn : szT P fd.type = some n) (hn1 : 1 ≤ n)
    (e : (match x with
      | .ptr s j o => some (.ptr s j (o + fd.offset))
      | .rptr c o => some (.rptr c (o + fd.offset))
      | _ => none : Option V) = some v) {X : Value} (hX : RV m S w x X) : ∃ y, (Instr.fieldAt t X f).run P w = .ok y w ∧ RV m S w v y := by
  obtain ⟨fs, hu, hfs⟩ := fieldOf_run hf
  have real : ∀ a : Addr, X = .pointer (some a) → (Instr.fieldAt t X f).run P w = .ok (.pointer (some (a.add fd.offset))) w := by
    rintro a rfl
    simp only [Instr.fieldAt, Sem.run_bind, run_underlying hu, Result.andThen_ok, hfs, Instr.sureAddr, Sem.run_pure, fieldPlace, run_sizeOf hn, Sem.run_ite]
    rw [if_neg (by omega)]
    rfl
  split at e
  · rename_i s j o
    injection e with e; subst e
    cases hX with
    | ptr _ _ _ r hm hk hlt =>
      refine ⟨_, real _ rfl, ?_⟩
      rw [cell_add, Nat.add_assoc]
      exact .ptr s j _ r hm hk hlt
  · rename_i c o
    injection e with e; subst e
    cases hX with
    | rptr _ _ b off u g1 g2 g3 g4 =>
      refine ⟨_, real _ rfl, ?_⟩
      rw [cell_add, Nat.add_assoc]
      exact .rptr c _ b off u g1 g2 g3 g4
  · cases e
theorem field_run {t : TypeId} {f : Nat} {fd : Field} {cs : List V} {v : V} (hf : fieldOf P t f = some fd) (e : partT P fd.type cs fd.offset = some v) {X : Value} (hX : RV m S w (.agg cs) X) : ∃ y, (Instr.field t X f).run P w = .ok y w ∧ RV m S w v y := by
  obtain ⟨fs, hu, hfs⟩ := fieldOf_run hf
  obtain ⟨xs, rfl, hxs⟩ := hX.agg_inv
  obtain ⟨y, hy, hv⟩ := part_run e hxs w
  exact ⟨y, by simp only [Instr.field, Sem.run_bind, run_underlying hu, Result.andThen_ok, hfs, asAgg, Sem.run_pure, hy], hv⟩
theorem index_run {t : TypeId} {x i v : V} (e : indexV P t x i = some v) {X I : Value} (hX : RV m S w x X) (hI : RV m S w i I) : ∃ y, (Instr.index t X I).run P w = .ok y w ∧ RV m S w v y := by
  unfold indexV at e
  split at e
  · rename_i n0 el cs k n hu
    cases hI
    obtain ⟨xs, rfl, hxs⟩ := hX.agg_inv
    simp only [Bool.cond_eq_ite] at e
    split at e
    · rename_i hg
      simp only [Bool.and_eq_true] at hg
      have h0 := of_decide_eq_true hg.1
      have h1 := of_decide_eq_true hg.2
      cases hz : szT P el with
      | none => rw [hz] at e; cases e
      | some z =>
        rw [hz] at e
        obtain ⟨y, hy, hv⟩ := part_run e hxs w
        refine ⟨y, ?_, hv⟩
        simp only [Instr.index, asIntOf, Sem.run_bind, Sem.run_pure, Result.andThen_ok, run_underlying hu, Sem.run_ite, run_sizeOf hz]
        rw [if_pos ⟨h0, h1⟩, hy]
    · cases e
  · rename_i s k n hu
    cases hI
    cases hX
    simp only [Bool.cond_eq_ite] at e
    split at e
    · rename_i hg
      have h0 := of_decide_eq_true hg
      obtain ⟨c, hc, rfl⟩ := Option.map_eq_some_iff.1 e
      refine ⟨.int .u8 c.toNat, ?_, .int _ _⟩
      have hget : (⟨⟨s⟩⟩ : ByteArray)[n.toNat]? = some c := by
        have hlt := lt_of_get hc
        have hlt' : n.toNat < (⟨⟨s⟩⟩ : ByteArray).size := hlt
        rw [getElem?_pos (⟨⟨s⟩⟩ : ByteArray) n.toNat hlt']
        rw [List.getElem?_eq_getElem hlt] at hc
        injection hc with hc
        rw [← hc]; rfl
      simp only [Instr.index, asIntOf, Sem.run_bind, Sem.run_pure, Result.andThen_ok, run_underlying hu]
      rw [if_pos h0, hget]
      rfl
    · cases e
  · cases e
theorem minFrom_run {k : IntKind} : ∀ {vs : List V} {a : Int} {v : V} {xs : List Value}, minFrom k a vs = some v → RVs m S w vs xs → ∃ y, (xs.foldlM Builtin.min2 (.int k a)).run P w = .ok y w ∧ RV m S w v y
  | [], a, v, xs, e, hx => by
    simp only [minFrom, Option.some.injEq] at e
    subst e
    obtain rfl := hx.nil_inv
    exact ⟨_, rfl, .int _ _⟩
  | .int k' b :: vs, a, v, xs, e, hx => by
    simp only [minFrom] at e
    obtain ⟨x, xs', rfl, h1, h2⟩ := hx.cons_inv
    cases h1
    obtain ⟨y, hy, hv⟩ := minFrom_run e h2
    refine ⟨y, ?_, hv⟩
    simp only [List.foldlM_cons, Sem.run_bind, Builtin.min2, Sem.run_pure, Result.andThen_ok]
    rw [show (if b < a then b else a) = min a b by rw [Int.min_def]; split <;> split <;> omega]
    exact hy
  | .bool _ :: _, a, v, xs, e, hx | .str _ :: _, a, v, xs, e, hx | .nilp :: _, a, v, xs, e, hx | .ptr .. :: _, a, v, xs, e, hx | .rptr .. :: _, a, v, xs, e, hx | .nils :: _, a, v, xs, e, hx | .emp :: _, a, v, xs, e, hx
  | .ref .. :: _, a, v, xs, e, hx | .lst _ :: _, a, v, xs, e, hx | .func .. :: _, a, v, xs, e, hx | .nilf :: _, a, v, xs, e, hx | .nili :: _, a, v, xs, e, hx | .ifc :: _, a, v, xs, e, hx | .nilm :: _, a, v, xs, e, hx | .it _ :: _, a, v, xs, e, hx | .map _ :: _, a, v, xs, e, hx
  | .agg _ :: _, a, v, xs, e, hx | .tup _ :: _, a, v, xs, e, hx => by simp [minFrom] at e
theorem maxFrom_run {k : IntKind} : ∀ {vs : List V} {a : Int} {v : V} {xs : List Value}, maxFrom k a vs = some v → RVs m S w vs xs → ∃ y, (xs.foldlM Builtin.max2 (.int k a)).run P w = .ok y w ∧ RV m S w v y
  | [], a, v, xs, e, hx => by
    simp only [maxFrom, Option.some.injEq] at e
    subst e
    obtain rfl := hx.nil_inv
    exact ⟨_, rfl, .int _ _⟩
  | .int k' b :: vs, a, v, xs, e, hx => by
    simp only [maxFrom] at e
    obtain ⟨x, xs', rfl, h1, h2⟩ := hx.cons_inv
    cases h1
    obtain ⟨y, hy, hv⟩ := maxFrom_run e h2
    refine ⟨y, ?_, hv⟩
    simp only [List.foldlM_cons, Sem.run_bind, Builtin.max2, Sem.run_pure, Result.andThen_ok]
    rw [show (if b > a then b else a) = max a b by rw [Int.max_def]; split <;> split <;> omega]
    exact hy
  | .bool _ :: _, a, v, xs, e, hx | .str _ :: _, a, v, xs, e, hx | .nilp :: _, a, v, xs, e, hx | .ptr .. :: _, a, v, xs, e, hx | .rptr .. :: _, a, v, xs, e, hx | .nils :: _, a, v, xs, e, hx | .emp :: _, a, v, xs, e, hx
  | .ref .. :: _, a, v, xs, e, hx | .lst _ :: _, a, v, xs, e, hx | .func .. :: _, a, v, xs, e, hx | .nilf :: _, a, v, xs, e, hx | .nili :: _, a, v, xs, e, hx | .ifc :: _, a, v, xs, e, hx | .nilm :: _, a, v, xs, e, hx | .it _ :: _, a, v, xs, e, hx | .map _ :: _, a, v, xs, e, hx
  | .agg _ :: _, a, v, xs, e, hx | .tup _ :: _, a, v, xs, e, hx => by simp [maxFrom] at e
theorem minV_run {vs : List V} {v : V} {xs : List Value} (e : minV vs = some v) (hx : RVs m S w vs xs) (ts : Array TypeId) (ty : TypeId) : ∃ y, (Builtin.min_ ts ty xs.toArray).run P w = .ok y w ∧ RV m S w v y := by
  unfold minV at e
  split at e
  · obtain ⟨x, xs', rfl, h1, h2⟩ := hx.cons_inv
    cases h1
    exact minFrom_run e h2
  · cases e
theorem maxV_run {vs : List V} {v : V} {xs : List Value} (e : maxV vs = some v) (hx : RVs m S w vs xs) (ts : Array TypeId) (ty : TypeId) : ∃ y, (Builtin.max_ ts ty xs.toArray).run P w = .ok y w ∧ RV m S w v y := by
  unfold maxV at e
  split at e
  · obtain ⟨x, xs', rfl, h1, h2⟩ := hx.cons_inv
    cases h1
    exact maxFrom_run e h2
  · cases e
end
end Go.Proofs.YthhpdnlfhofanaaGreatDoor
namespace Go.Proofs.YthhpdnlfhofanaaGreatDoor
open Go.RowKit
set_option linter.unusedVariables false
set_option linter.unusedSimpArgs false
section
variable {P : Program} {C : Ctx} {m : Gh} {S : Nat → Prop} {h : Heap} {w : World}
theorem flat1_uncons {c : List V} {es : List (List V)} {vs : List Value} {v : V} (hf : Flat m S w 1 (c :: es) vs) (hc : c = [v]) : ∃ x vs', vs = x :: vs' ∧ RV m S w v x ∧ Flat m S w 1 es vs' := by
  subst hc
  obtain ⟨h1, h2, h3⟩ := hf
  obtain ⟨u, hu, hv⟩ := (h3 0 _ rfl).2 0 v rfl
  match vs, h1, hu with
  | [], h1, hu => simp at hu
  | x :: vs', h1, hu =>
    simp at hu; subst hu
    refine ⟨x, vs', rfl, hv, by simpa using h1, fun i c j v hc hv => h2 (i + 1) c j v (by simpa using hc) hv, fun i c hc => ⟨(h3 (i + 1) c (by simpa using hc)).1, fun j v hv => ?_⟩⟩
    obtain ⟨y, hy, hr⟩ := (h3 (i + 1) c (by simpa using hc)).2 j v hv
    refine ⟨y, ?_, hr⟩
    rw [show (i + 1) * 1 + j = (i * 1 + j) + 1 by omega] at hy
    simpa using hy
theorem bytes_flat : ∀ {es : List (List V)} {l : List UInt8} {vs : List Value}, bytesV es = some l → Flat m S w 1 es vs → ∃ ns : List Int, vs = ns.map (Value.int .u8) ∧ l = ns.map fun n => UInt8.ofNat n.toNat
  | [], l, vs, e, hf => by
    simp only [bytesV, Option.some.injEq] at e
    subst e
    have := hf.1
    obtain rfl : vs = [] := List.eq_nil_of_length_eq_zero (by simpa using this)
    exact ⟨[], rfl, rfl⟩
  | c :: es, l, vs, e, hf => by
    unfold bytesV at e
    split at e
    · rename_i heq; cases heq
    · rename_i n t heq
      injection heq with h1 h2
      subst h1; subst h2
      obtain ⟨l', hl', rfl⟩ := Option.map_eq_some_iff.1 e
      obtain ⟨x, vs', rfl, hx, hf'⟩ := flat1_uncons hf rfl
      cases hx
      obtain ⟨ns, rfl, rfl⟩ := bytes_flat hl' hf'
      exact ⟨n :: ns, rfl, rfl⟩
    · cases e
theorem bytes_head {es : List (List V)} {l : List UInt8} (e : bytesV es = some l) : headOk 1 es = true := by
  cases es with
  | nil => rfl
  | cons c t =>
    unfold bytesV at e
    split at e
    · rename_i heq; cases heq
    · rename_i n t heq
      injection heq with h1 h2
      subst h1; rfl
    · cases e
theorem foldl_push : ∀ (ns : List Int) (l : List UInt8), ns.foldl (fun (r : ByteArray) n => r.push (UInt8.ofNat n.toNat)) ⟨⟨l⟩⟩ = ⟨⟨l ++ ns.map fun n => UInt8.ofNat n.toNat⟩⟩
  | [], l => by simp
  | n :: ns, l => by
    simp only [List.foldl_cons, List.map_cons]
    have : (⟨⟨l⟩⟩ : ByteArray).push (UInt8.ofNat n.toNat) = ⟨⟨l ++ [UInt8.ofNat n.toNat]⟩⟩ := by
      apply ByteArray.ext; apply Array.ext'; simp
    rw [this, foldl_push ns]
    simp
theorem convV_run {src dst : TypeId} {x : V} {q : V × Upd} {rr : List Nat} (e : convV P src dst x h = some (q, rr)) (hi : Inv C S m h w) {X : Value} (hX : RV m S w x X) :
    ∃ y, (convert src dst X).run P w = .ok y w ∧ q.2 = [] ∧ RV m S w q.1 y := by
  unfold convV at e
  generalize hs : P.underlying src = ds at e
  generalize hd : P.underlying dst = dd at e
  split at e
  · rename_i d k k' n
    obtain ⟨rfl, _⟩ := M.inv_pure e
    cases hX
    exact ⟨_, by simp [convert, run_underlying hs, run_underlying hd, Conv.intToInt], rfl, .int _ _⟩
  · obtain ⟨rfl, _⟩ := M.inv_pure e
    cases hX
    exact ⟨_, by simp [convert, run_underlying hs, run_underlying hd], rfl, .str _⟩
  · rename_i el
    generalize he : P.underlying el = de at e
    split at e
    · obtain ⟨es, r1, r2, e1, e2, _⟩ := M.inv_bind e
      have key : opt ((bytesV es).map V.str) h = some (q, r2) ∧ ∀ l, x ≠ .str l := by
        cases x <;> first | exact ⟨e2, fun l hl => by cases hl⟩ | cases e2
      obtain ⟨e3, hns⟩ := key
      obtain ⟨h1, h2, _⟩ := inv_opt e3
      obtain ⟨l, hl, hq⟩ := Option.map_eq_some_iff.1 h1
      obtain ⟨vs, hf, hsrc⟩ := elemsOf_run (P := P) e1 hi hX (Nat.le_refl 1) (bytes_head hl)
      obtain ⟨ns, rfl, rfl⟩ := bytes_flat hl hf
      have hvl := hf.1
      have hfc := (hsrc w rfl).2 es.length (Nat.le_refl _)
      rw [List.take_of_length_le (by omega)] at hfc
      have hlen := (hsrc w rfl).1
      refine ⟨.string ⟨⟨ns.map fun n => UInt8.ofNat n.toNat⟩⟩, ?_, h2, by rw [← hq]; exact .str _⟩
      have main : ∀ (A : Option Addr) (n c : Nat), X = .slice A n c → (convert src dst X).run P w = .ok (.string ⟨⟨ns.map fun n => UInt8.ofNat n.toNat⟩⟩) w := by
        rintro A n c rfl
        rw [run_convert_bytes_string w src dst el A n c hs he hd]
        simp only [Builtin.lenOf, Sem.run_pure, Result.ok.injEq, and_true] at hlen
        subst hlen
        cases A with
        | none =>
          simp only [Builtin.firstCells, Sem.run_pure, Result.ok.injEq, and_true] at hfc
          have : ns = [] := by
            have := congrArg Array.size hfc
            simp at this
            exact List.eq_nil_of_length_eq_zero this.symm
          subst this
          rfl
        | some a =>
          simp only [Builtin.firstCells, Nat.mul_one] at hfc
          rw [run_bytesToString w a _ c ns hfc]
          have := foldl_push ns []
          simp only [List.nil_append] at this
          rw [← this]; rfl
      cases hX <;> first | exact main _ _ _ rfl | exact absurd rfl (hns _) | (unfold elemsOf at e1; cases e1)
    · cases e
  · cases e
theorem range_run (hi : Inv C S m h w) {site : Nat} (hs : hget h site = none) {t : TypeId} (hu : P.underlying t = some .string) {s : List UInt8} {X : Value} (hX : RV m S w (.str s) X) :
    ∃ m' y w', (Instr.range t X).run P w = .ok y w' ∧ Ext C S m w S m' ((site, ⟨true, true, true, [[.str s, .int .i64 0]], 0⟩) :: h) w' ∧ RV m' S w' (.it site) y := by
  cases hX
  obtain ⟨hi', hr⟩ := Inv.allocO (w' := w.alloc (.stringIter ⟨⟨s⟩⟩ 0)) hi hs (b := ⟨true, true, true, [[.str s, .int .i64 0]], 0⟩) (o := .stringIter ⟨⟨s⟩⟩ 0) (r := ⟨.iter, w.heap.size, 0, 0, 0, 0⟩) rfl rfl rfl rfl rfl rfl rfl
    (fun m' w2 hr _ => ⟨rfl, rfl, rfl⟩)
  refine ⟨_, _, _, ?_, ⟨hi', upd_mono (dom_none hi hs), fun _ h => h, hr⟩, .it site ⟨.iter, w.heap.size, 0, 0, 0, 0⟩ (by unfold upd; rw [if_pos rfl]) rfl⟩
  simp only [Instr.range, Sem.run_bind, run_underlying hu, Result.andThen_ok, Sem.run_pure, run_newObj]
  rfl
theorem BkR.iter {r : RB} {b : Bk} (hb : BkR m S w r b) (hk : r.kind = .iter) : ∃ st pos, w.heap[r.blk]? = some (.stringIter st pos) ∧ b.box = true ∧ b.elems = [[.str st.data.toList, .int .i64 pos]] := by
  have hnil : r.nil = false := by unfold RB.nil; rw [hk]
  obtain ⟨o, h1, h2⟩ := hb.obj hnil
  cases o with
  | stringIter st pos => exact ⟨st, pos, h1, h2.2.1, h2.2.2⟩
  | cells arr t fr => have := h2.1.1; rw [hk] at this; cases this
  | map es c => have := h2.1; rw [hk] at this; cases this
  | _ => exact h2.elim
theorem next_run (hi : Inv C S m h w) {s : Nat} {X : Value} (hX : RV m S w (.it s) X) {b : Bk} (hs : hget h s = some b) (hl : b.live = true) (hw : b.wr = true) {l : List UInt8} {p : Int} (hb : b.elems = [[.str l, .int .i64 p]]) (ty : TypeId) :
    (p.toNat < l.length → ∃ w', (Instr.next X true ty).run P w = .ok (.tuple #[.bool true, .int .i64 p, .int .i32 (Utf8.decode ⟨⟨l⟩⟩ p.toNat).1]) w' ∧ Ext C S m w S m ((s, { b with elems := [[.str l, .int .i64 (p + (Utf8.decode ⟨⟨l⟩⟩ p.toNat).2)]] }) :: h) w') ∧
    (¬ p.toNat < l.length → (Instr.next X true ty).run P w = .ok (.tuple #[.bool false]) w) := by
  cases hX with
  | it _ r hm hk =>
    obtain ⟨r', hr', hbk⟩ := hi.bks s b hs hl
    rw [hm] at hr'; injection hr' with hr'; subst hr'
    have hnil : r.nil = false := by unfold RB.nil; rw [hk]
    obtain ⟨st, pos, ho1, hbx, he⟩ := hbk.iter hk
    · rw [hb] at he
      simp only [List.cons.injEq, V.str.injEq, V.int.injEq, and_true, true_and] at he
      obtain ⟨rfl, rfl⟩ := he
      simp only [Int.toNat_natCast]
      have hgo : (getObj r.blk).run P w = .ok (.stringIter st pos) w := by simp [getObj, Sem.run, ho1]
      constructor
      · intro hlt
        have hlt' : pos < st.size := hlt
        obtain ⟨hi', hr⟩ := Inv.writeO (w' := { w with heap := w.heap.setIfInBounds r.blk (.stringIter st (pos + (Utf8.decode st pos).2)) }) hi hs hl hw hm hnil (b' := { b with elems := [[.str st.data.toList, .int .i64 ((pos : Int) + (Utf8.decode st pos).2)]] }) (o := .stringIter st (pos + (Utf8.decode st pos).2)) rfl rfl
          (by have := hbk.lt hnil; simp [this]) (fun k hk => by simp [Array.getElem?_setIfInBounds_ne (Ne.symm hk)]) (by simp) rfl rfl rfl
          (fun w2 hr => ⟨hk, hbx, by simp⟩)
        refine ⟨_, ?_, ⟨hi', fun _ _ h => h, fun _ h => h, hr⟩⟩
        simp only [Instr.next, Sem.run_bind, hgo, Result.andThen_ok, Sem.run_ite]
        rw [if_pos hlt']
        simp [setObj, Sem.run, ho1, goInt]
      · intro hge
        have hge' : ¬ pos < st.size := hge
        simp only [Instr.next, Sem.run_bind, hgo, Result.andThen_ok, Sem.run_ite]
        rw [if_neg hge']
        rfl
end
end Go.Proofs.YthhpdnlfhofanaaGreatDoor
namespace Go.Proofs.YthhpdnlfhofanaaGreatDoor
open Go.RowKit
set_option linter.unusedVariables false
set_option linter.unusedSimpArgs false
section
variable {P : Program} {C : Ctx} {m : Gh} {S : Nat → Prop} {h : Heap} {w : World}
theorem BkR.map {r : RB} {b : Bk} (hb : BkR m S w r b) (hk : r.kind = .map) : ∃ es, w.heap[r.blk]? = some (.map es es.size) ∧ b.box = false ∧ b.elems.length = es.size ∧
    ∀ (i : Nat) (c : List V) (e : MapEntry), b.elems[i]? = some c → es[i]? = some e → e.born = i ∧ ∃ k v, c = [k, v] ∧ V.treeA k = true ∧ V.treeA v = true ∧ RV m S w k e.key ∧ RV m S w v e.val := by
  have hnil : r.nil = false := by unfold RB.nil; rw [hk]
  obtain ⟨o, h1, h2⟩ := hb.obj hnil
  cases o with
  | map es c =>
    obtain ⟨h3, h4, h5, rfl, h6⟩ := h2
    exact ⟨es, h1, h4, h5, h6⟩
  | cells arr t fr => have := h2.1.1; rw [hk] at this; cases this
  | stringIter st pos => have := h2.1; rw [hk] at this; cases this
  | _ => exact h2.elim
theorem checkKey_loop {n d : Nat} {em : Bool} {cs : List V} {X : List Value} (hx : RVs m S w cs X) (w1 : World)
    (ih : ∀ t v, keyV P n t v = true → ∀ Y w1, RV m S w v Y → (Instr.checkKey em d t Y).run P w1 = .ok () w1) :
    ∀ fs : List Field, (fs.all fun f => match partT P f.type cs f.offset with
      | some v => keyV P n f.type v
      | none => false) = true →
    (forIn fs PUnit.unit fun f (_ : PUnit) => (if f.name ≠ "_" then (do
      let a ← part f.type ⟨X⟩ f.offset
      Instr.checkKey em d f.type a
      pure (ForInStep.yield PUnit.unit))
      else pure (ForInStep.yield PUnit.unit) : Sem (ForInStep PUnit))).run P w1 = .ok PUnit.unit w1
  | [], _ => by simp
  | f :: fs, h => by
    simp only [List.all_cons, Bool.and_eq_true] at h
    obtain ⟨h1, h2⟩ := h
    split at h1
    · rename_i v hv
      obtain ⟨A, hA, hA'⟩ := part_run hv hx w1
      have := checkKey_loop hx w1 ih fs h2
      by_cases hn : f.name = "_"
      · simp only [List.forIn_cons, hn, ne_eq, not_true_eq_false, if_false, Sem.run_bind, Sem.run_pure, Result.andThen_ok]
        exact this
      · simp only [List.forIn_cons, hn, ne_eq, not_false_eq_true, if_true, Sem.run_bind, Sem.run_pure, Result.andThen_ok, hA, ih _ _ h1 A w1 hA']
        exact this
    · cases h1
theorem checkKey_run {em : Bool} : ∀ (n : Nat) (t : TypeId) (v : V), keyV P n t v = true → ∀ d, n ≤ d → ∀ X w1, RV m S w v X → (Instr.checkKey em d t X).run P w1 = .ok () w1
  | 0, t, v, h => by cases h
  | n + 1, t, v, h => by
    intro d hd X w1 hx
    obtain ⟨d, rfl⟩ : ∃ d', d = d' + 1 := ⟨d - 1, by omega⟩
    unfold keyV at h
    split at h
    · rename_i hu
      cases hx
      simp [Instr.checkKey, run_underlying hu]
    · rename_i hu
      cases hx
      simp [Instr.checkKey, run_underlying hu]
    · rename_i hu
      cases hx
      simp [Instr.checkKey, run_underlying hu]
    · rename_i fs cs hu
      obtain ⟨X, rfl, hxs⟩ := hx.agg_inv
      have h := (Bool.and_eq_true .. ▸ h : _ ∧ _).2
      have h' : (fs.toList.all fun f => match partT P f.type cs f.offset with
        | some v => keyV P n f.type v
        | none => false) = true := h
      have ih := fun t v (hk : keyV P n t v = true) Y w1 (hY : RV m S w v Y) => checkKey_run (em := em) n t v hk d (by omega) Y w1 hY
      simp only [Instr.checkKey, Sem.run_bind, run_underlying hu, Result.andThen_ok]
      rw [← Array.forIn_toList]
      rw [checkKey_loop (em := em) hxs w1 ih fs.toList h']
      rfl
    · cases h
theorem findM_cons (kt : TypeId) (k k' v : V) (t : List (List V)) (i : Nat) : findM P kt k ([k', v] :: t) i = match eqT P 100 kt k k' with
    | some true => some (some (i, v))
    | some false => findM P kt k t (i + 1)
    | none => none := rfl
/-- What is found among a map's entries. -/
theorem findAsking_run {kt : TypeId} {k : V} {K : Value} (w1 : World) (hk : RV m S w k K) : ∀ {es : List (List V)} {l : List MapEntry} {i : Nat} {r : Option (Nat × V)}, es.length = l.length →
    (∀ (j : Nat) (c : List V) (e : MapEntry), es[j]? = some c → l[j]? = some e → ∃ k v, c = [k, v] ∧ RV m S w k e.key ∧ RV m S w v e.val) → findM P kt k es i = some r →
    ∃ R, (Instr.findAsking kt K l i).run P w1 = .ok R w1 ∧ (r = none → R = none) ∧ ∀ j v, r = some (j, v) → ∃ x, R = some (j, x) ∧ RV m S w v x
  | [], [], i, r, _, _, e => by
    simp only [findM, Option.some.injEq] at e
    subst e
    exact ⟨none, by simp [Instr.findAsking], fun _ => rfl, fun j v h => by cases h⟩
  | [], _ :: _, i, r, hl, _, e => by simp at hl
  | _ :: _, [], i, r, hl, _, e => by simp at hl
  | c :: es, q :: l, i, r, hl, hall, e => by
    obtain ⟨k', v', rfl, h1, h2⟩ := hall 0 c q rfl rfl
    rw [findM_cons] at e
    cases heq : eqT P 100 kt k k' with
    | none => rw [heq] at e; cases e
    | some b =>
      rw [heq] at e
      have hE := eqT_run 100 kt _ _ _ heq 10000 (by omega) K q.key w1 hk h1
      cases b with
      | true =>
        simp only [Option.some.injEq] at e
        subst e
        refine ⟨some (i, q.val), ?_, (fun h => by cases h), fun j v h => ?_⟩
        · simp only [Instr.findAsking, Op.equal, Op.maxDepth, Sem.run_bind, hE, Result.andThen_ok, if_true, Sem.run_pure]
        · injection h with h
          injection h with h3 h4
          subst h3 h4
          exact ⟨_, rfl, h2⟩
      | false =>
        simp only at e
        obtain ⟨R, hR, hR2⟩ := findAsking_run w1 hk (es := es) (l := l) (i := i + 1) (by simpa using hl) (fun j c e hc he => hall (j + 1) c e (by simpa using hc) (by simpa using he)) e
        refine ⟨R, ?_, hR2⟩
        simp only [Instr.findAsking, Op.equal, Op.maxDepth, Sem.run_bind, hE, Result.andThen_ok, Bool.false_eq_true, if_false]
        exact hR
theorem sameNow_equal {kt : TypeId} {d : TypeDesc} (hd : P.underlying kt = some d) {a b : Value} {r : Bool} (h : Instr.sameNow d a b = some r) (w1 : World) : (Op.equal kt a b).run P w1 = .ok r w1 := by
  have key : ∀ n, (Op.equalIn (n + 1) kt a b).run P w1 = .ok r w1 := by
    intro n
    unfold Instr.sameNow at h
    split at h
    · rename_i k a k' b
      split at h
      · rename_i hk
        subst hk
        injection h with h; subst h
        rw [run_equalIn_int w1 n kt _ _ _ _ hd]
      · cases h
    · injection h with h; subst h
      simp [Op.equalIn, run_underlying hd]
    · injection h with h; subst h
      simp [Op.equalIn, run_underlying hd]
    · cases h
  exact key 9999
theorem findNow_asking {kt : TypeId} {d : TypeDesc} (hd : P.underlying kt = some d) {k : Value} (w1 : World) : ∀ {l : List MapEntry} {i : Nat} {r : Option (Nat × Value)}, Instr.findNow d k l i = some r → (Instr.findAsking kt k l i).run P w1 = .ok r w1
  | [], i, r, h => by
    simp only [Instr.findNow, Option.some.injEq] at h
    subst h
    simp [Instr.findAsking]
  | e :: l, i, r, h => by
    unfold Instr.findNow at h
    split at h
    · rename_i hs
      injection h with h; subst h
      simp only [Instr.findAsking, Sem.run_bind, sameNow_equal hd hs, Result.andThen_ok, if_true, Sem.run_pure]
    · rename_i hs
      simp only [Instr.findAsking, Sem.run_bind, sameNow_equal hd hs, Result.andThen_ok, Bool.false_eq_true, if_false]
      exact findNow_asking hd w1 h
    · cases h
theorem findKey_asking {kt : TypeId} {d : TypeDesc} (hd : P.underlying kt = some d) {k : Value} (w1 : World) {l : List MapEntry} {r : Option (Nat × Value)} (h : (Instr.findAsking kt k l).run P w1 = .ok r w1) : (Instr.findKey kt k l).run P w1 = .ok r w1 := by
  unfold Instr.findKey
  simp only [Sem.run_bind, run_underlying hd, Result.andThen_ok]
  split
  · rename_i r' hr
    have := findNow_asking hd w1 hr
    rw [h] at this
    injection this with this
    subst this
    rfl
  · exact h
theorem keyV_under {n : Nat} {kt : TypeId} {k : V} (h : keyV P n kt k = true) : ∃ d, P.underlying kt = some d := by
  cases n with
  | zero => cases h
  | succ n =>
    cases hu : P.underlying kt with
    | some d => exact ⟨d, rfl⟩
    | none => simp [keyV, hu] at h
theorem getObj_run {b : Nat} {es : Array MapEntry} {c : Nat} (w1 : World) (h : w1.heap[b]? = some (.map es c)) : (getObj b).run P w1 = .ok (.map es c) w1 := by simp [getObj, Sem.run, h]
theorem makeMap_run (hi : Inv C S m h w) {site : Nat} (hs : hget h site = none) (t : TypeId) :
    ∃ m' y w', (Instr.makeMap t none).run P w = .ok y w' ∧ Ext C S m w S m' ((site, ⟨true, false, true, [], 0⟩) :: h) w' ∧ RV m' S w' (.map site) y := by
  obtain ⟨hi', hr⟩ := Inv.allocO (w' := w.alloc (.map #[] 0)) hi hs (b := ⟨true, false, true, [], 0⟩) (o := .map #[] 0) (r := ⟨.map, w.heap.size, 0, 0, 0, 0⟩) rfl rfl rfl rfl rfl rfl rfl
    (fun m' w2 hr _ => ⟨rfl, rfl, rfl, rfl, fun i c e hc => by simp at hc⟩)
  exact ⟨_, _, _, run_makeMap t w, ⟨hi', upd_mono (dom_none hi hs), fun _ h => h, hr⟩, .map site ⟨.map, w.heap.size, 0, 0, 0, 0⟩ (by unfold upd; rw [if_pos rfl]) rfl⟩
/-- What is known of a map's block. -/
theorem map_block (hi : Inv C S m h w) {s : Nat} {X : Value} (hX : RV m S w (.map s) X) {b : Bk} (hs : hget h s = some b) (hl : b.live = true) :
    ∃ r es, X = .map (some r.blk) ∧ m s = some r ∧ r.nil = false ∧ r.kind = .map ∧ BkR m S w r b ∧ w.heap[r.blk]? = some (.map es es.size) ∧ b.box = false ∧ b.elems.length = es.size ∧
    ∀ (i : Nat) (c : List V) (e : MapEntry), b.elems[i]? = some c → es[i]? = some e → e.born = i ∧ ∃ k v, c = [k, v] ∧ V.treeA k = true ∧ V.treeA v = true ∧ RV m S w k e.key ∧ RV m S w v e.val := by
  cases hX with
  | map _ r hm hk =>
    obtain ⟨r', hr', hbk⟩ := hi.bks s b hs hl
    rw [hm] at hr'; injection hr' with hr'; subst hr'
    obtain ⟨es, h1, h2, h3, h4⟩ := hbk.map hk
    exact ⟨r, es, rfl, hm, by unfold RB.nil; rw [hk], hk, hbk, h1, h2, h3, h4⟩
theorem lookup_run (hi : Inv C S m h w) {s : Nat} {X : Value} (hX : RV m S w (.map s) X) {b : Bk} (hs : hget h s = some b) (hl : b.live = true) {t kt et : TypeId} (hu : P.underlying t = some (.map kt et)) {k : V} {K : Value} (hK : RV m S w k K)
    (hkv : keyV P 100 kt k = true) {ok : Bool} {v : V} (e : lookupV P kt et k ok b.elems = some v) : ∃ y, (Instr.lookup t X K ok).run P w = .ok y w ∧ RV m S w v y := by
  obtain ⟨r, es, rfl, hm, hnil, hk, hbk, ho, hbx, hlen, hall⟩ := map_block hi hX hs hl
  obtain ⟨d, hd⟩ := keyV_under hkv
  have hck := checkKey_run (em := es.isEmpty) 100 kt k hkv 10000 (by omega) K w hK
  have hfa := fun r hr => findAsking_run (P := P) (kt := kt) w hK (es := b.elems) (l := es.toList) (i := 0) (r := r) (by simpa using hlen) (fun j c e hc he => (hall j c e hc (by simpa using he)).2.imp fun k ⟨v, h⟩ => ⟨v, h.1, h.2.2.2.1, h.2.2.2.2⟩) hr
  unfold lookupV at e
  split at e
  · rename_i z hf hz
    obtain ⟨R, hR, hn, _⟩ := hfa _ hf
    obtain rfl := hn rfl
    obtain ⟨zx, hzr, hzx, _⟩ := run_zero (P := P) (m := m) (S := S) hz w
    injection e with e; subst e
    refine ⟨if ok then .tuple #[zx, .bool false] else zx, ?_, ?_⟩
    · simp only [Instr.lookup, Sem.run_bind, run_underlying hu, Result.andThen_ok, getObj_run w ho, Sem.run_pure, hck, findKey_asking hd w hR, hzr]
    · cases ok
      · exact hzx
      · exact RV.tup' (xs := [zx, .bool false]) (.cons hzx (.cons (.bool _) .nil))
  · rename_i j v' z hf hz
    obtain ⟨R, hR, _, hs'⟩ := hfa _ hf
    obtain ⟨x, rfl, hx⟩ := hs' _ _ rfl
    injection e with e; subst e
    refine ⟨if ok then .tuple #[x, .bool true] else x, ?_, ?_⟩
    · simp only [Instr.lookup, Sem.run_bind, run_underlying hu, Result.andThen_ok, getObj_run w ho, Sem.run_pure, hck, findKey_asking hd w hR]
    · cases ok
      · exact hx
      · exact RV.tup' (xs := [x, .bool true]) (.cons hx (.cons (.bool _) .nil))
  · cases e
theorem mapEntry_run (hi : Inv C S m h w) {s : Nat} {X : Value} (hX : RV m S w (.map s) X) {b : Bk} (hs : hget h s = some b) (hl : b.live = true) (hw : b.wr = true) {t kt et : TypeId} (hu : P.underlying t = some (.map kt et)) {k z : V} {K : Value} (hK : RV m S w k K)
    (hkv : keyV P 100 kt k = true) (hkt : k.treeA = true) (hf : findM P kt k b.elems 0 = some none) (hz : zeroT P et = some z) (hzt : z.treeA = true) :
    ∃ y w', (Instr.mapEntry t X K).run P w = .ok y w' ∧ Ext C S m w S m ((s, { b with elems := b.elems ++ [[k, z]] }) :: h) w' ∧ RV m S w' (.tup [z, .int .i64 b.elems.length]) y := by
  obtain ⟨r, es, rfl, hm, hnil, hk, hbk, ho, hbx, hlen, hall⟩ := map_block hi hX hs hl
  obtain ⟨d, hd⟩ := keyV_under hkv
  have hck := checkKey_run (em := false) 100 kt k hkv 10000 (by omega) K w hK
  obtain ⟨R, hR, hn, _⟩ := findAsking_run (P := P) (kt := kt) w hK (es := b.elems) (l := es.toList) (i := 0) (by simpa using hlen) (fun j c e hc he => (hall j c e hc (by simpa using he)).2.imp fun k ⟨v, h⟩ => ⟨v, h.1, h.2.2.2.1, h.2.2.2.2⟩) hf
  obtain rfl := hn rfl
  obtain ⟨zx, hzr, hzx, _⟩ := run_zero (P := P) (m := m) (S := S) hz w
  have hlt := hbk.lt hnil
  obtain ⟨hi', hr⟩ := Inv.writeO (w' := { w with heap := w.heap.setIfInBounds r.blk (.map (es.push { key := K, val := zx, born := es.size }) (es.size + 1)) }) hi hs hl hw hm hnil (b' := { b with elems := b.elems ++ [[k, z]] }) (o := .map (es.push { key := K, val := zx, born := es.size }) (es.size + 1)) rfl rfl
    (by simp [hlt]) (fun k hk => by simp [Array.getElem?_setIfInBounds_ne (Ne.symm hk)]) (by simp) rfl rfl rfl
    (fun w2 hr => ⟨hk, hbx, by simp [hlen], by simp, fun i c e hc he => by
      rcases Nat.lt_or_ge i b.elems.length with hi' | hi'
      · rw [List.getElem?_append_left hi'] at hc
        rw [Array.getElem?_push, if_neg (by omega)] at he
        obtain ⟨h1, k', v', h2, h3, h4, h5, h6⟩ := hall i c e hc he
        exact ⟨h1, k', v', h2, h3, h4, hr _ _ h5, hr _ _ h6⟩
      · rw [List.getElem?_append_right hi'] at hc
        have hi0 : i = b.elems.length := by
          rcases Nat.lt_or_ge (i - b.elems.length) 1 with h' | h'
          · omega
          · rw [List.getElem?_eq_none (by simpa using h')] at hc; cases hc
        subst hi0
        rw [Array.getElem?_push, if_pos hlen] at he
        simp only [Nat.sub_self, List.getElem?_cons_zero, Option.some.injEq] at hc he
        subst hc; subst he
        exact ⟨hlen.symm, k, z, rfl, hkt, hzt, hr _ _ hK, hr _ _ hzx⟩⟩)
  refine ⟨_, _, ?_, ⟨hi', fun _ _ h => h, fun _ h => h, hr⟩, RV.tup' (xs := [zx, .int .i64 es.size]) (.cons (hr _ _ hzx) (.cons ?_ .nil))⟩
  · simp only [Instr.mapEntry, Sem.run_bind, run_underlying hu, Result.andThen_ok, getObj_run w ho, hck, findKey_asking hd w hR, hzr]
    simp [setObj, Sem.run, ho, goInt]
  · rw [hlen]; exact .int _ _
theorem mapUpdate_run (hi : Inv C S m h w) {s : Nat} {X : Value} (hX : RV m S w (.map s) X) {b : Bk} (hs : hget h s = some b) (hl : b.live = true) (hw : b.wr = true) {t kt et : TypeId} (hu : P.underlying t = some (.map kt et)) {k z : V} {K zx : Value} (hK : RV m S w k K) (hzx : RV m S w z zx)
    (hkv : keyV P 100 kt k = true) (hkt : k.treeA = true) (hf : findM P kt k b.elems 0 = some none) (hzt : z.treeA = true) :
    ∃ w', (Instr.mapUpdate t X K zx).run P w = .ok () w' ∧ Ext C S m w S m ((s, { b with elems := b.elems ++ [[k, z]] }) :: h) w' := by
  obtain ⟨r, es, rfl, hm, hnil, hk, hbk, ho, hbx, hlen, hall⟩ := map_block hi hX hs hl
  obtain ⟨d, hd⟩ := keyV_under hkv
  have hck := checkKey_run (em := false) 100 kt k hkv 10000 (by omega) K w hK
  obtain ⟨R, hR, hn, _⟩ := findAsking_run (P := P) (kt := kt) w hK (es := b.elems) (l := es.toList) (i := 0) (by simpa using hlen) (fun j c e hc he => (hall j c e hc (by simpa using he)).2.imp fun k ⟨v, h⟩ => ⟨v, h.1, h.2.2.2.1, h.2.2.2.2⟩) hf
  obtain rfl := hn rfl
  have hlt := hbk.lt hnil
  obtain ⟨hi', hr⟩ := Inv.writeO (w' := { w with heap := w.heap.setIfInBounds r.blk (.map (es.push { key := K, val := zx, born := es.size }) (es.size + 1)) }) hi hs hl hw hm hnil (b' := { b with elems := b.elems ++ [[k, z]] }) (o := .map (es.push { key := K, val := zx, born := es.size }) (es.size + 1)) rfl rfl
    (by simp [hlt]) (fun k hk => by simp [Array.getElem?_setIfInBounds_ne (Ne.symm hk)]) (by simp) rfl rfl rfl
    (fun w2 hr => ⟨hk, hbx, by simp [hlen], by simp, fun i c e hc he => by
      rcases Nat.lt_or_ge i b.elems.length with hi' | hi'
      · rw [List.getElem?_append_left hi'] at hc
        rw [Array.getElem?_push, if_neg (by omega)] at he
        obtain ⟨h1, k', v', h2, h3, h4, h5, h6⟩ := hall i c e hc he
        exact ⟨h1, k', v', h2, h3, h4, hr _ _ h5, hr _ _ h6⟩
      · rw [List.getElem?_append_right hi'] at hc
        have hi0 : i = b.elems.length := by
          rcases Nat.lt_or_ge (i - b.elems.length) 1 with h' | h'
          · omega
          · rw [List.getElem?_eq_none (by simpa using h')] at hc; cases hc
        subst hi0
        rw [Array.getElem?_push, if_pos hlen] at he
        simp only [Nat.sub_self, List.getElem?_cons_zero, Option.some.injEq] at hc he
        subst hc; subst he
        exact ⟨hlen.symm, k, z, rfl, hkt, hzt, hr _ _ hK, hr _ _ hzx⟩⟩)
  refine ⟨_, ?_, ⟨hi', fun _ _ h => h, fun _ h => h, hr⟩⟩
  simp only [Instr.mapUpdate, Sem.run_bind, run_underlying hu, Result.andThen_ok, getObj_run w ho, hck, findKey_asking hd w hR]
  simp [setObj, Sem.run, ho]
theorem entryStore_run (hi : Inv C S m h w) {s : Nat} {X : Value} (hX : RV m S w (.map s) X) {b : Bk} (hs : hget h s = some b) (hl : b.live = true) (hw : b.wr = true) (t : TypeId) {kk : IntKind} {i : Int} (hi0 : 0 ≤ i) {k v : V} {K : Value} (hv : RV m S w v K) (hvt : v.treeA = true)
    (hk : keyAt b.elems i.toNat = some k) : ∃ w', (Instr.entryStore t X (.int kk i) K).run P w = .ok () w' ∧ Ext C S m w S m ((s, { b with elems := b.elems.set i.toNat [k, v] }) :: h) w' := by
  obtain ⟨r, es, rfl, hm, hnil, hkd, hbk, ho, hbx, hlen, hall⟩ := map_block hi hX hs hl
  obtain ⟨k', v0, hc⟩ : ∃ k' v0, b.elems[i.toNat]? = some [k', v0] := by
    unfold keyAt at hk
    split at hk
    · exact ⟨_, _, ‹_›⟩
    · cases hk
  have hkk : k' = k := by simp only [keyAt, hc, Option.some.injEq] at hk; exact hk
  subst hkk
  have hlt' : i.toNat < es.size := by have := lt_of_get hc; omega
  have hbn : ∀ j (hj : j < es.size), (es[j]).born = j := fun j hj => by
    have hj' : j < b.elems.length := by omega
    exact (hall j _ _ (List.getElem?_eq_getElem hj') (Array.getElem?_eq_getElem hj)).1
  have hfi : es.findIdx? (fun e => (e.born : Int) == i) = some i.toNat := by
    rw [Array.findIdx?_eq_some_iff_getElem]
    refine ⟨hlt', by rw [hbn _ hlt']; simp; omega, fun j hj => ?_⟩
    rw [hbn j (by omega)]
    simp; omega
  have hlt := hbk.lt hnil
  obtain ⟨hi', hr⟩ := Inv.writeO (w' := { w with heap := w.heap.setIfInBounds r.blk (.map (es.modify i.toNat fun e => { e with val := K }) es.size) }) hi hs hl hw hm hnil (b' := { b with elems := b.elems.set i.toNat [k', v] }) (o := .map (es.modify i.toNat fun e => { e with val := K }) es.size) rfl rfl
    (by simp [hlt]) (fun k hk => by simp [Array.getElem?_setIfInBounds_ne (Ne.symm hk)]) (by simp) rfl rfl rfl
    (fun w2 hr => ⟨hkd, hbx, by simp [hlen], by simp, fun j c e hc' he => by
      rw [Array.getElem?_modify] at he
      by_cases hj : i.toNat = j
      · subst hj
        rw [if_pos rfl] at he
        obtain ⟨e0, he0, rfl⟩ := Option.map_eq_some_iff.1 he
        rw [List.getElem?_set, if_pos rfl, if_pos (by omega)] at hc'
        injection hc' with hc'; subst hc'
        obtain ⟨h1, k2, v2, h2, h3, h4, h5, h6⟩ := hall _ _ e0 hc he0
        injection h2 with h2 h7
        subst h2
        exact ⟨h1, k', v, rfl, h3, hvt, hr _ _ h5, hr _ _ hv⟩
      · rw [if_neg hj] at he
        rw [List.getElem?_set, if_neg hj] at hc'
        obtain ⟨h1, k2, v2, h2, h3, h4, h5, h6⟩ := hall _ _ e hc' he
        exact ⟨h1, k2, v2, h2, h3, h4, hr _ _ h5, hr _ _ h6⟩⟩)
  refine ⟨_, ?_, ⟨hi', fun _ _ h => h, fun _ h => h, hr⟩⟩
  simp only [Instr.entryStore, Sem.run_bind, getObj_run w ho, Result.andThen_ok, asInt, asIntOf, Sem.run_pure, hfi]
  simp [setObj, Sem.run, ho]
end
end Go.Proofs.YthhpdnlfhofanaaGreatDoor
namespace Go.Proofs.YthhpdnlfhofanaaGreatDoor
open Go.RowKit
set_option linter.unusedVariables false
set_option linter.unusedSimpArgs false
section
variable {gl : Gl} {P : Program} {C : Ctx} {m : Gh} {S : Nat → Prop} {h : Heap} {w : World}
/-- What a call has to leave. -/
def Goes (C : Ctx) (S : Nat → Prop) (m : Gh) (h : Heap) (w : World) (r : V × Upd) (K : Value → World → Prop) : Prop :=
  ∀ S' m' w' x, Ext C S m w S' m' (r.2 ++ h) w' → RV m' S' w' r.1 x → K x w'
theorem wp_value {o : Oper} {a : Act} {K : Act → World → Prop} {Q : Exit → Act → World → Prop} {x : Value} {w' : World} (hr : (execOp a.eval o).run P w = .ok (.value x) w') (h : K (a.put o.dst x) w') : o.wp P a w K Q := by
  unfold Oper.wp; rw [hr]; exact h
theorem wp_skip' {o : Oper} {a : Act} {K : Act → World → Prop} {Q : Exit → Act → World → Prop} {w' : World} (hr : (execOp a.eval o).run P w = .ok .skip w') (h : K (a.put o.dst undef) w') : o.wp P a w K Q := by
  unfold Oper.wp; rw [hr]; exact h
theorem opt_run {ts : Tmps} {a : Act} (ht : TR gl m S w ts a) {o : Option Operand} {r : Option V} (e : evOpt gl ts o = some r) : RO m S w r (o.map a.eval) := by
  cases o with
  | none => simp only [evOpt, Option.some.injEq] at e; subst e; exact .inl ⟨rfl, rfl⟩
  | some x =>
    simp only [evOpt] at e
    cases hx : evalO gl ts x with
    | none => rw [hx] at e; cases e
    | some v =>
      rw [hx] at e
      simp only [Option.some.injEq] at e
      subst e
      exact .inr ⟨v, _, rfl, rfl, ht.eval hx⟩
theorem tyE_ok (P : Program) (el : TypeId) : tyE P el = 0 ∨ el + 1 = tyC (tyE P el) := by
  unfold tyE
  split
  · cases hq : Nat.ble 1000000 (el + 1) with
    | true => exact .inl rfl
    | false => right; simp only [tyC, cond_false, hq]
  · exact .inl rfl
theorem builtinV_run {site : Nat} {b : Builtin} {ts : List TypeId} {vs : List V} {q : V × Upd} {rr : List Nat} (e : builtinV P site b ts vs h = some (q, rr)) (hi : Inv C S m h w) {xs : List Value} (hx : RVs m S w vs xs) (ty : TypeId) (cs : Array Bool) :
    ∃ S' m' y w', (builtin b ts.toArray ty cs xs.toArray).run P w = .ok (.value y) w' ∧ Ext C S m w S' m' (q.2 ++ h) w' ∧ RV m' S' w' q.1 y := by
  unfold builtinV at e
  split at e
  · rename_i t tl x
    obtain ⟨h1, h2, _⟩ := inv_opt e
    obtain ⟨X, xs', rfl, hX, hxs⟩ := hx.cons_inv
    obtain rfl := hxs.nil_inv
    obtain ⟨y, hy, hv⟩ := lenV_run (ty := ty) h1 hX w tl
    refine ⟨S, m, y, w, ?_, by rw [h2]; exact Ext.refl hi, hv⟩
    simp only [builtin, Sem.run_bind]
    rw [show (t :: tl).toArray = ⟨t :: tl⟩ from rfl, show ([X] : List Value).toArray = #[X] from rfl, hy]
    rfl
  · rename_i t t' s x
    generalize hu : P.underlying t = d at e
    split at e
    · rename_i el
      obtain ⟨nb, r1, r2, e1, e2, _⟩ := M.inv_bind e
      obtain ⟨hnb, _⟩ := M.inv_lift e1
      obtain ⟨z, r3, r4, e3, e4, _⟩ := M.inv_bind e2
      obtain ⟨hz, _⟩ := M.inv_lift e3
      obtain ⟨zero, r5, r6, e5, e6, _⟩ := M.inv_bind e4
      obtain ⟨hzero, _⟩ := M.inv_lift e5
      obtain ⟨_, r7, r8, e7, e8, _⟩ := M.inv_bind e6
      obtain ⟨hg, _⟩ := M.inv_guard e7
      simp only [Bool.and_eq_true] at hg
      obtain ⟨⟨⟨hz1, hn1⟩, hzl⟩, hsrc⟩ := hg
      have hz1 := Nat.le_of_ble_eq_true hz1
      have hn1 := Nat.le_of_ble_eq_true hn1
      have hzl := beq_nat hzl
      obtain ⟨X, xs', rfl, hX, hxs⟩ := hx.cons_inv
      obtain ⟨Y, xs', rfl, hY, hxs⟩ := hxs.cons_inv
      obtain rfl := hxs.nil_inv
      obtain ⟨zx, _, hzx, _, i, hinf, hzz⟩ := run_zero (P := P) (m := m) (S := S) hzero w
      obtain ⟨i', hinf', hisz⟩ := szT_info hz
      rw [hinf] at hinf'; injection hinf' with hinf'; subst hinf'
      have hib : i.bytes = nb := by unfold bytesT at hnb; rw [hinf] at hnb; simpa using hnb
      have hzs : zx.cells.size = z := by have := hzx.cells.1; simp at this; omega
      have ht' : (∃ e', P.underlying t' = some (.slice e')) ∨ P.underlying t' = some .string := by
        unfold srcOk at hsrc
        split at hsrc
        · rename_i h'; exact .inr h'
        · rename_i h'; exact .inl ⟨_, h'⟩
        · cases hsrc
      obtain ⟨m', y, w', hr, hxt, hv⟩ := appendV_run (ty := ty) e8 hi (tyE_ok P el) hu ht' hinf hisz hib hzz hzs hz1 hn1 hX hY
      refine ⟨S, m', y, w', ?_, hxt, hv⟩
      simp only [builtin, Sem.run_bind]
      rw [show ([t, t'] : List TypeId).toArray = #[t, t'] from rfl, show ([X, Y] : List Value).toArray = #[X, Y] from rfl, hr]
      rfl
    · cases e
  · rename_i t t' d x
    generalize hu : P.underlying t = du at e
    split at e
    · rename_i el
      obtain ⟨z, r3, r4, e3, e4, _⟩ := M.inv_bind e
      obtain ⟨hz, _⟩ := M.inv_lift e3
      obtain ⟨_, r7, r8, e7, e8, _⟩ := M.inv_bind e4
      obtain ⟨hg, _⟩ := M.inv_guard e7
      have hz1 := Nat.le_of_ble_eq_true hg
      obtain ⟨X, xs', rfl, hX, hxs⟩ := hx.cons_inv
      obtain ⟨Y, xs', rfl, hY, hxs⟩ := hxs.cons_inv
      obtain rfl := hxs.nil_inv
      obtain ⟨w', y, hr, hxt, hv⟩ := copyV_run (t' := t') (ty := ty) e8 hi hu hz hz1 hX hY
      refine ⟨S, m, y, w', ?_, hxt, hv⟩
      simp only [builtin, Sem.run_bind]
      rw [show ([t, t'] : List TypeId).toArray = #[t, t'] from rfl, show ([X, Y] : List Value).toArray = #[X, Y] from rfl, hr]
      rfl
    · cases e
  · rename_i t x
    obtain ⟨X, xs', rfl, hX, hxs⟩ := hx.cons_inv
    obtain rfl := hxs.nil_inv
    generalize hu : P.underlying t = du at e
    split at e
    · obtain ⟨rfl, _⟩ := M.inv_pure e
      cases hX
      refine ⟨S, m, _, w, ?_, Ext.refl hi, .tup [] [] rfl (by simp)⟩
      simp [builtin, Builtin.clear_, run_underlying hu]
    · obtain ⟨rfl, _⟩ := M.inv_pure e
      cases hX
      rename_i A
      refine ⟨S, m, _, w, ?_, Ext.refl hi, .tup [] [] rfl (by simp)⟩
      cases A <;> simp [builtin, Builtin.clear_, run_underlying hu]
    · rename_i el a off len cm
      obtain ⟨b, r1, r2, e1, e2, _⟩ := M.inv_bind e
      obtain ⟨hs, hl, _⟩ := M.inv_rdl e1
      obtain ⟨z, r3, r4, e3, e4, _⟩ := M.inv_bind e2
      obtain ⟨hz, _⟩ := M.inv_lift e3
      generalize hzq : (zeroT P el).map V.cells = zq at e4
      split at e4
      · rename_i zc
        obtain ⟨zv, hzv, rfl⟩ := Option.map_eq_some_iff.1 hzq
        obtain ⟨_, r7, r8, e7, e8, _⟩ := M.inv_bind e4
        obtain ⟨hg, _⟩ := M.inv_guard e7
        simp only [Bool.and_eq_true, Bool.not_eq_true'] at hg
        obtain ⟨⟨⟨⟨⟨hw, hbox⟩, hhead⟩, hzl⟩, htree⟩, hz1⟩ := hg
        have hz1 := Nat.le_of_ble_eq_true hz1
        obtain ⟨rfl, _⟩ := M.inv_pure e8
        obtain ⟨w', hr, hxt⟩ := clear_run (ty := ty) hi hu hz hzv (beq_nat hzl) (List.all_eq_true.1 htree) hX hs hl hw hbox hhead hz1
        refine ⟨S, m, _, w', ?_, hxt, .tup [] [] rfl (by simp)⟩
        simp only [builtin, Sem.run_bind]
        rw [show ([t] : List TypeId).toArray = #[t] from rfl, show ([X] : List Value).toArray = #[X] from rfl, hr]
        rfl
      · cases e4
    · cases e
  · obtain ⟨h1, h2, _⟩ := inv_opt e
    obtain ⟨y, hy, hv⟩ := minV_run (P := P) h1 hx ts.toArray ty
    refine ⟨S, m, y, w, ?_, by rw [h2]; exact Ext.refl hi, hv⟩
    simp only [builtin, Sem.run_bind, hy]
    rfl
  · obtain ⟨h1, h2, _⟩ := inv_opt e
    obtain ⟨y, hy, hv⟩ := maxV_run (P := P) h1 hx ts.toArray ty
    refine ⟨S, m, y, w, ?_, by rw [h2]; exact Ext.refl hi, hv⟩
    simp only [builtin, Sem.run_bind, hy]
    rfl
  · cases e
end
end Go.Proofs.YthhpdnlfhofanaaGreatDoor
namespace Go.Proofs.YthhpdnlfhofanaaGreatDoor
open Go.RowKit
set_option linter.unusedVariables false
set_option linter.unusedSimpArgs false
section
variable {P : Program} {cfg : Cfg} {call : CallF} {C : Ctx} {m : Gh} {S : Nat → Prop} {h : Heap} {w : World}
/-- What is known of the calls that a function makes. -/
def CallOk (P : Program) (cfg : Cfg) (call : CallF) : Prop :=
  ∀ {C : Ctx} {m : Gh} {S : Nat → Prop} {h : Heap} {w : World} {site : Nat} {f : FuncId} {vs : List V} {q : V × Upd} {rr : List Nat}, callV P cfg call site f vs h = some (q, rr) → Inv C S m h w →
    ∀ {xs : List Value}, RVs m S w vs xs → GlobR cfg.glob m S w → ExC cfg.glob C → (∃ fn c, P.funcs[f]? = some fn ∧ fn.body = some c) → Calls P f xs.toArray w fun e w' => ∃ S' m' x, e = .returned x ∧ Ext C S m w S' m' (q.2 ++ h) w' ∧ RV m' S' w' q.1 x
def NamesOk (P : Program) : Prop := ∀ (f : Nat) fn, P.funcs[f]? = some fn → (fn.name == "runtime.NumGoroutine") = false
theorem all_leaf {l : List V} (h : l.all V.leaf = true) : ∀ v ∈ l, V.leaf v = true := List.all_eq_true.1 h
theorem evOp_wp (hcall : CallOk P cfg call) (hnames : NamesOk P) (hex : ExC cfg.glob C) {site : Nat} {ts : Tmps} {o : Oper} {q : V × Upd} {rr : List Nat} (e : evOp P cfg call site ts o h = some (q, rr)) (hi : Inv C S m h w) {a : Act} (ht : TR cfg.glob m S w ts a)
    {K : Act → World → Prop} {Q : Exit → Act → World → Prop} (hK : Goes C S m h w q fun x w' => K (a.put o.dst x) w') : o.wp P a w K Q := by
  obtain ⟨dst, op, type, pos, after, guard⟩ := o
  -- what only computes
  have plain : ∀ {o : Oper} {x : Value} {v : V}, o.dst = dst → q.2 = [] → q.1 = v → (execOp a.eval o).run P w = .ok (.value x) w → RV m S w v x → o.wp P a w K Q := by
    intro o x v hd h2 h1 hr hv
    subst h1
    refine wp_value hr ?_
    rw [hd]
    exact hK S m w x (by rw [h2]; exact Ext.refl hi) hv
  have made : ∀ {o : Oper} {S' : Nat → Prop} {m' : Gh} {w' : World} {x : Value}, o.dst = dst → (execOp a.eval o).run P w = .ok (.value x) w' → Ext C S m w S' m' (q.2 ++ h) w' → RV m' S' w' q.1 x → o.wp P a w K Q := by
    intro o S' m' w' x hd hr hx hv
    refine wp_value hr ?_
    rw [hd]
    exact hK S' m' w' x hx hv
  unfold evOp at e
  cases op
  case move x =>
    simp only at e
    obtain ⟨h1, h2, _⟩ := inv_opt e
    exact plain rfl h2 rfl (by simp [execOp]) (ht.eval h1)
  case assign x =>
    simp only at e
    obtain ⟨h1, h2, _⟩ := inv_opt e
    exact plain rfl h2 rfl (by simp [execOp]) (ht.eval h1)
  case pick c x y =>
    simp only at e
    obtain ⟨h1, h2, _⟩ := inv_opt e
    split at h1
    · rename_i hc
      have hc' := ht.eval hc
      generalize hx : a.eval c = X at hc'
      cases hc'
      exact plain rfl h2 rfl (by simp [execOp, hx, asBool]) (ht.eval h1)
    · rename_i hc
      have hc' := ht.eval hc
      generalize hx : a.eval c = X at hc'
      cases hc'
      exact plain rfl h2 rfl (by simp [execOp, hx, asBool]) (ht.eval h1)
    · cases h1
  case alloc el =>
    simp only at e
    generalize hz : zeroT P el = zq at e
    split at e
    · rename_i z
      obtain ⟨_, r1, r2, e1, e2, _⟩ := M.inv_bind e
      obtain ⟨hg, _⟩ := M.inv_guard e1
      generalize cfg.rows el = rq at e2
      split at e2
      · obtain ⟨zx, hzr, hzx, _⟩ := run_zero (P := P) (m := m) (S := S) hz w
        simp only [Bool.cond_eq_ite] at e2
        split at e2
        · rename_i hbl
          simp only [Bool.and_eq_true, Nat.beq_eq] at hbl
          generalize hzc : z.cells = zc at e2
          split at e2
          · obtain ⟨u, r3, r4, e3, e4, _⟩ := M.inv_bind e2
            obtain ⟨hsite, rfl⟩ := inv_newB e3
            obtain ⟨rfl, _⟩ := M.inv_pure e4
            have hza : z = .agg [.nilp, .nils] := by
              cases z <;> simp only [V.cells, List.cons.injEq, reduceCtorEq, and_false, false_and] at hzc
              rw [hzc]
            subst hza
            obtain ⟨m', w', hr, hxt, hv⟩ := newBld_run (P := P) hi hsite hzx el (Nat.le_of_ble_eq_true hbl.1) hbl.2
            exact made rfl (by simp [execOp, Instr.alloc, hzr, hr]) hxt hv
          · cases e2
        · obtain ⟨u, r3, r4, e3, e4, _⟩ := M.inv_bind e2
          obtain ⟨hsite, rfl⟩ := inv_newB e3
          obtain ⟨rfl, _⟩ := M.inv_pure e4
          obtain ⟨m', w', hr, hxt, hv⟩ := newVar_run (P := P) hi hsite hzx (all_leaf hg) el
          exact made rfl (by simp [execOp, Instr.alloc, hzr, hr]) hxt hv
      · obtain ⟨_, r5, r6, e5, e6, _⟩ := M.inv_bind e2
        obtain ⟨hg2, _⟩ := M.inv_guard e5
        simp only [Bool.and_eq_true] at hg2
        obtain ⟨⟨⟨g1, g2⟩, g3⟩, g4⟩ := hg2
        obtain ⟨u, r3, r4, e3, e4, _⟩ := M.inv_bind e6
        obtain ⟨hsite, rfl⟩ := inv_newB e3
        obtain ⟨rfl, _⟩ := M.inv_pure e4
        obtain ⟨zx, hzr, hzx, _⟩ := run_zero (P := P) (m := m) (S := S) hz w
        obtain ⟨m', w', hr, hxt, hv⟩ := newRows_run (P := P) hi hsite hzx (Nat.le_of_ble_eq_true g1) (Nat.le_of_ble_eq_true g2) (beq_nat g3) (List.all_eq_true.1 g4) el
        exact made rfl (by simp [execOp, Instr.alloc, hzr, hr]) hxt hv
    · cases e
  case box el x =>
    simp only at e
    obtain ⟨v, r0, r00, e0, e00, _⟩ := M.inv_bind e
    obtain ⟨h1, _⟩ := M.inv_lift e0
    obtain ⟨_, r1, r2, e1, e2, _⟩ := M.inv_bind e00
    obtain ⟨hg, _⟩ := M.inv_guard e1
    obtain ⟨u, r3, r4, e3, e4, _⟩ := M.inv_bind e2
    obtain ⟨hsite, rfl⟩ := inv_newB e3
    obtain ⟨rfl, _⟩ := M.inv_pure e4
    obtain ⟨m', w', hr, hxt, hv⟩ := newVar_run (P := P) hi hsite (ht.eval h1) (all_leaf hg) el
    exact made rfl (by simp [execOp, Instr.box, hr]) hxt hv
  case build t ps =>
    simp only at e
    obtain ⟨h1, h2, _⟩ := inv_opt e
    simp only [Option.bind_eq_bind, Option.bind_eq_some_iff] at h1
    obtain ⟨z, hz, vs, hvs, h1⟩ := h1
    obtain ⟨y, hr, hv⟩ := build_run (P := P) (w := w) ht hz hvs (v := q.1) (by exact h1)
    refine plain rfl h2 rfl ?_ hv
    simp only [execOp]
    have : (ps.map fun x => (x.1, a.eval x.2)) = (ps.toList.toArray.map fun x => (x.1, a.eval x.2)) := by simp
    rw [show (ps.map fun (i, x) => (i, a.eval x)) = (ps.toList.toArray.map fun x => (x.1, a.eval x.2)) from this]
    simp [hr]
  case buildSlice t n ps =>
    simp only at e
    obtain ⟨vs, r0, r00, e0, e00, _⟩ := M.inv_bind e
    obtain ⟨hvs, _⟩ := M.inv_lift e0
    generalize hu : P.underlying t = du at e00
    split at e00
    · rename_i el
      obtain ⟨z, r1, r2, e1, e2, _⟩ := M.inv_bind e00
      obtain ⟨hz, _⟩ := M.inv_lift e1
      simp only [Bool.cond_eq_ite] at e2
      split at e2
      · rename_i hc
        simp only [Bool.and_eq_true, Nat.beq_eq] at hc
        obtain ⟨rfl, hps⟩ := hc
        have hps : ps = #[] := by
          have := List.isEmpty_iff.1 hps
          simpa using this
        subst hps
        obtain ⟨rfl, _⟩ := M.inv_pure e2
        have hx := hi.alloc0 (.cells #[] el)
        refine made rfl ?_ hx (.emp (some ⟨w.heap.size, 0, none⟩))
        simp only [execOp]
        have := buildSlice0_run (w := w) hu hz
        simp [this]
      generalize hin : inOrder z 0 vs = ino at e2
      split at e2
      · rename_i es
        obtain ⟨zero, r3, r4, e3, e4, _⟩ := M.inv_bind e2
        obtain ⟨hzero, _⟩ := M.inv_lift e3
        obtain ⟨_, r5, r6, e5, e6, _⟩ := M.inv_bind e4
        obtain ⟨hg, _⟩ := M.inv_guard e5
        simp only [Bool.and_eq_true] at hg
        obtain ⟨⟨⟨hl, hnz⟩, hz1⟩, hzl⟩ := hg
        obtain ⟨⟨es', ids⟩, r7, r8, e7, e8, _⟩ := M.inv_bind e6
        obtain ⟨u, r9, r10, e9, e10, _⟩ := M.inv_bind e8
        obtain ⟨b, r11, r12, e11, e12, _⟩ := M.inv_bind e10
        obtain ⟨rfl, _⟩ := M.inv_pure e12
        obtain ⟨S', m', y, w', hr, hxt, hv⟩ := buildSlice_run hi ht hu hz (Nat.le_of_ble_eq_true hz1) (Nat.le_of_ble_eq_true hnz) hvs hin (beq_nat hl) hzero (beq_nat hzl) e7 e9 e11
        refine made rfl ?_ hxt hv
        simp only [execOp]
        have : (ps.map fun x => (x.1, a.eval x.2)) = (ps.toList.toArray.map fun x => (x.1, a.eval x.2)) := by simp
        rw [show (ps.map fun (i, x) => (i, a.eval x)) = (ps.toList.toArray.map fun x => (x.1, a.eval x.2)) from this]
        simp [hr]
      · cases e2
    · cases e00
  case load t p =>
    simp only at e
    obtain ⟨v, r0, r00, e0, e00, _⟩ := M.inv_bind e
    obtain ⟨h1, _⟩ := M.inv_lift e0
    obtain ⟨v', r1, r2, e1, e2, _⟩ := M.inv_bind e00
    obtain ⟨rfl, _⟩ := M.inv_pure e2
    obtain ⟨y, hr, hv⟩ := loadV_run e1 hi (ht.eval h1)
    exact plain rfl rfl rfl (by simp [execOp, hr]) hv
  case store t p x =>
    simp only at e
    obtain ⟨v, r0, r00, e0, e00, _⟩ := M.inv_bind e
    obtain ⟨h1, _⟩ := M.inv_lift e0
    obtain ⟨v', r1, r2, e1, e2, _⟩ := M.inv_bind e00
    obtain ⟨h2, _⟩ := M.inv_lift e1
    obtain ⟨S', w', hr, hq, hxt⟩ := storeV_run e2 hi (ht.eval h1) (ht.eval h2)
    refine wp_skip' (by simp [execOp, hr]) (hK S' m w' _ hxt ?_)
    rw [hq]
    exact .tup [] [] rfl (by simp)
  case nilCheck x =>
    simp only at e
    obtain ⟨h1, h2, _⟩ := inv_opt e
    split at h1
    · rename_i s i o hx
      have hx' := ht.eval hx
      injection h1 with h1
      generalize hX : a.eval x = X at hx'
      rw [h1] at hx'
      refine plain rfl h2 rfl (x := X) ?_ hx'
      rw [← h1] at hx'
      cases hx'
      simp [execOp, hX]
    · rename_i c o hx
      have hx' := ht.eval hx
      injection h1 with h1
      generalize hX : a.eval x = X at hx'
      rw [h1] at hx'
      refine plain rfl h2 rfl (x := X) ?_ hx'
      rw [← h1] at hx'
      cases hx'
      simp [execOp, hX]
    · rename_i f fa fc hx
      have hx' := ht.eval hx
      injection h1 with h1
      generalize hX : a.eval x = X at hx'
      rw [h1] at hx'
      refine plain rfl h2 rfl (x := X) ?_ hx'
      rw [← h1] at hx'
      cases hx'
      simp [execOp, hX]
    · cases h1
  case binOp op t x y yt =>
    simp only at e
    obtain ⟨h1, h2, _⟩ := inv_opt e
    split at h1
    · rename_i va vb hx hy
      obtain ⟨z, hr, hv⟩ := binV_run h1 (ht.eval hx) (ht.eval hy) x y w
      refine plain rfl h2 rfl ?_ hv
      simp only [Sem.run_bind] at hr
      simp only [execOp, Sem.run_bind, hr, Result.andThen_ok, Sem.run_pure]
    · cases h1
  case unOp op t x =>
    simp only at e
    obtain ⟨h1, h2, _⟩ := inv_opt e
    obtain ⟨va, hx, h1⟩ := Option.bind_eq_some_iff.1 h1
    obtain ⟨z, hr, hv⟩ := unV_run (P := P) h1 (ht.eval hx) w
    exact plain rfl h2 rfl (by simp [execOp, hr]) hv
  case convert src dst' x =>
    simp only at e
    obtain ⟨v, r0, r00, e0, e00, _⟩ := M.inv_bind e
    obtain ⟨h1, _⟩ := M.inv_lift e0
    obtain ⟨y, hr, h2, hv⟩ := convV_run e00 hi (ht.eval h1)
    exact plain rfl h2 rfl (by simp [execOp, hr]) hv
  case makeFunc fn fa fc =>
    cases fn <;> try (cases e)
    rename_i f
    simp only at e
    obtain ⟨h1, h2, _⟩ := inv_opt e
    split at h1
    · rename_i va vc ha hc
      simp only [Bool.cond_eq_ite] at h1
      split at h1
      · injection h1 with h1
        have ha' := ht.args ha
        have hc' := ht.args hc
        refine plain rfl h2 h1.symm (x := .func (.func f) ⟨fa.toList.map a.eval⟩ ⟨fc.toList.map a.eval⟩) ?_ (.func f va vc _ _ ha'.1 hc'.1 ha'.2 hc'.2)
        simp only [execOp, Instr.makeFunc, Sem.run_bind, Sem.run_pure, Result.andThen_ok]
        congr 3
        · apply Array.ext'; simp
        · apply Array.ext'; simp
      · cases h1
    · cases h1
  case makeSlice t l c =>
    simp only at e
    generalize hu : P.underlying t = du at e
    generalize hl : evalO cfg.glob ts l = lv at e
    generalize hc : evalO cfg.glob ts c = cv at e
    split at e
    · rename_i el kl lv kc cv
      obtain ⟨nb, r1, r2, e1, e2, _⟩ := M.inv_bind e
      obtain ⟨hnb, _⟩ := M.inv_lift e1
      obtain ⟨z, r3, r4, e3, e4, _⟩ := M.inv_bind e2
      obtain ⟨hz, _⟩ := M.inv_lift e3
      generalize hzq : (zeroT P el).map V.cells = zq at e4
      split at e4
      · obtain ⟨zv, hzv, rfl⟩ := Option.map_eq_some_iff.1 hzq
        obtain ⟨_, r5, r6, e5, e6, _⟩ := M.inv_bind e4
        obtain ⟨hg, _⟩ := M.inv_guard e5
        simp only [Bool.and_eq_true] at hg
        obtain ⟨⟨⟨⟨⟨⟨g1, g2⟩, g3⟩, g4⟩, g5⟩, g6⟩, g7⟩ := hg
        obtain ⟨u, r7, r8, e7, e8, _⟩ := M.inv_bind e6
        obtain ⟨hsite, rfl⟩ := inv_newB e7
        obtain ⟨rfl, _⟩ := M.inv_pure e8
        obtain ⟨m', y, w', hr, hxt, hv⟩ := makeSlice_run (kl := kl) (kc := kc) hi hsite hu hnb hz hzv (of_decide_eq_true g1) (of_decide_eq_true g2) (of_decide_eq_true g3) (of_decide_eq_true g4) (List.all_eq_true.1 g5) (beq_nat g6) (Nat.le_of_ble_eq_true g7)
        have hl' := ht.eval hl
        have hc' := ht.eval hc
        generalize hL : a.eval l = L at hl'
        generalize hCC : a.eval c = CC at hc'
        cases hl'
        cases hc'
        exact made rfl (by simp [execOp, hL, hCC, hr]) hxt hv
      · cases e4
    · cases e
  case slice t x lo hi' mx =>
    simp only at e
    obtain ⟨vx, r1, r2, e1, e2, _⟩ := M.inv_bind e
    obtain ⟨hx, _⟩ := M.inv_lift e1
    obtain ⟨vlo, r3, r4, e3, e4, _⟩ := M.inv_bind e2
    obtain ⟨hlo, _⟩ := M.inv_lift e3
    obtain ⟨vhi, r5, r6, e5, e6, _⟩ := M.inv_bind e4
    obtain ⟨hhi, _⟩ := M.inv_lift e5
    obtain ⟨vmx, r7, r8, e7, e8, _⟩ := M.inv_bind e6
    obtain ⟨hmx, _⟩ := M.inv_lift e7
    have hX := ht.eval hx
    have olo := opt_run ht hlo
    have ohi := opt_run ht hhi
    have omx := opt_run ht hmx
    generalize hu : P.underlying t = du at e8
    split at e8
    · obtain ⟨h1, h2, _⟩ := inv_opt e8
      obtain ⟨y, hr, hv⟩ := slice_str_run (P := P) hu h1 hX olo ohi omx
      exact plain rfl h2 rfl (by simp [execOp, hr]) hv
    · rename_i el
      obtain ⟨z, r9, r10, e9, e10, _⟩ := M.inv_bind e8
      obtain ⟨hz, _⟩ := M.inv_lift e9
      split at e10
      · rename_i s o1 o2 o3
        obtain ⟨b, r11, r12, e11, e12, _⟩ := M.inv_bind e10
        obtain ⟨hs, hl, _⟩ := M.inv_rdl e11
        obtain ⟨_, r13, r14, e13, e14, _⟩ := M.inv_bind e12
        obtain ⟨hg, _⟩ := M.inv_guard e13
        obtain ⟨h1, h2, _⟩ := inv_opt e14
        obtain ⟨y, hr, hv⟩ := slice_row_run hu hz hi h1 (fun s' a' b' c' he => by injection he with he1; subst he1; exact ⟨b, hs, hl, hg⟩) (fun xs he => by cases he) hX olo ohi omx
        exact plain rfl h2 rfl (by simp [execOp, hr]) hv
      · rename_i xs
        obtain ⟨_, r13, r14, e13, e14, _⟩ := M.inv_bind e10
        obtain ⟨hg, _⟩ := M.inv_guard e13
        obtain ⟨h1, h2, _⟩ := inv_opt e14
        obtain ⟨y, hr, hv⟩ := slice_row_run hu hz hi h1 (fun s' a' b' c' he => by cases he) (fun xs he => by injection he with he1; subst he1; exact hg) hX olo ohi omx
        exact plain rfl h2 rfl (by simp [execOp, hr]) hv
      · rename_i hn1 hn2
        obtain ⟨h1, h2, _⟩ := inv_opt e10
        obtain ⟨y, hr, hv⟩ := slice_row_run hu hz hi h1 (fun s' a' b' c' he => absurd he (hn1 _ _ _ _)) (fun xs he => absurd he (hn2 _)) hX olo ohi omx
        exact plain rfl h2 rfl (by simp [execOp, hr]) hv
    · rename_i n0 el
      obtain ⟨z, r9, r10, e9, e10, _⟩ := M.inv_bind e8
      obtain ⟨hz, _⟩ := M.inv_lift e9
      split at e10
      · rename_i s
        obtain ⟨b, r11, r12, e11, e12, _⟩ := M.inv_bind e10
        obtain ⟨hs, hl, _⟩ := M.inv_rdl e11
        obtain ⟨_, r13, r14, e13, e14, _⟩ := M.inv_bind e12
        obtain ⟨hg, _⟩ := M.inv_guard e13
        simp only [Bool.and_eq_true] at hg
        obtain ⟨⟨⟨g1, g2⟩, g3⟩, g4⟩ := hg
        obtain rfl : vmx = none := by simpa using g4
        obtain ⟨h1, h2, _⟩ := inv_opt e14
        obtain ⟨y, hr, hv⟩ := slice_arr_run hu hz hi hs hl g2 (Nat.le_of_ble_eq_true g3) h1 hX olo ohi
        have hmn := omx.none rfl
        exact plain rfl h2 rfl (by simp [execOp, hmn, hr]) hv
      · cases e10
    · cases e8
  case fieldAddr t x i =>
    simp only at e
    obtain ⟨h1, h2, _⟩ := inv_opt e
    simp only [Option.bind_eq_bind, Option.bind_eq_some_iff] at h1
    obtain ⟨vx, hx, fd, hf, n, hn, h1⟩ := h1
    simp only [Bool.cond_eq_ite] at h1
    split at h1
    · rename_i hg
      obtain ⟨y, hr, hv⟩ := fieldAddr_run (P := P) hf hn (Nat.le_of_ble_eq_true hg) h1 (ht.eval hx)
      exact plain rfl h2 rfl (by simp [execOp, hr]) hv
    · cases h1
  case field t x i =>
    simp only at e
    obtain ⟨h1, h2, _⟩ := inv_opt e
    simp only [Option.bind_eq_bind, Option.bind_eq_some_iff] at h1
    obtain ⟨fd, hf, vx, hx, h1⟩ := h1
    split at h1
    · obtain ⟨y, hr, hv⟩ := field_run (P := P) hf h1 (ht.eval hx)
      exact plain rfl h2 rfl (by simp [execOp, hr]) hv
    · cases h1
  case indexAddr t x i =>
    simp only at e
    obtain ⟨vx, r1, r2, e1, e2, _⟩ := M.inv_bind e
    obtain ⟨hx, _⟩ := M.inv_lift e1
    obtain ⟨vi, r3, r4, e3, e4, _⟩ := M.inv_bind e2
    obtain ⟨hix, _⟩ := M.inv_lift e3
    obtain ⟨v', r5, r6, e5, e6, _⟩ := M.inv_bind e4
    obtain ⟨rfl, _⟩ := M.inv_pure e6
    obtain ⟨y, hr, hv⟩ := indexAddr_run e5 hi (ht.eval hx) (ht.eval hix)
    exact plain rfl rfl rfl (by simp [execOp, hr]) hv
  case index t x i =>
    simp only at e
    obtain ⟨h1, h2, _⟩ := inv_opt e
    split at h1
    · rename_i vx vi hx hix
      obtain ⟨y, hr, hv⟩ := index_run (P := P) h1 (ht.eval hx) (ht.eval hix)
      exact plain rfl h2 rfl (by simp [execOp, hr]) hv
    · cases h1
  case extract x i =>
    simp only at e
    obtain ⟨h1, h2, _⟩ := inv_opt e
    split at h1
    · rename_i vs hx
      have hX := ht.eval hx
      generalize hXX : a.eval x = X at hX
      obtain ⟨xs, rfl, hxs⟩ := hX.tup_inv
      obtain ⟨y, hy, hv⟩ := hxs.get h1
      exact plain rfl h2 rfl (by simp [execOp, hXX, Instr.extract, hy]) hv
    · cases h1
  case range t x =>
    simp only at e
    generalize hu : P.underlying t = du at e
    generalize hx : evalO cfg.glob ts x = vx at e
    split at e
    · obtain ⟨u, r1, r2, e1, e2, _⟩ := M.inv_bind e
      obtain ⟨hsite, rfl⟩ := inv_newB e1
      obtain ⟨rfl, _⟩ := M.inv_pure e2
      obtain ⟨m', y, w', hr, hxt, hv⟩ := range_run (P := P) hi hsite hu (ht.eval hx)
      exact made rfl (by simp [execOp, hr]) hxt hv
    · cases e
  case next x b =>
    cases b <;> try (cases e)
    simp only at e
    generalize hx : evalO cfg.glob ts x = vx at e
    split at e
    · rename_i s
      obtain ⟨b, r1, r2, e1, e2, _⟩ := M.inv_bind e
      obtain ⟨hs, hl, _⟩ := M.inv_rdl e1
      obtain ⟨_, r3, r4, e3, e4, _⟩ := M.inv_bind e2
      obtain ⟨hw, _⟩ := M.inv_guard e3
      generalize hb : b.elems = be at e4
      split at e4
      · rename_i l p
        obtain ⟨n1, n2⟩ := next_run (P := P) hi (ht.eval hx) hs hl hw hb type
        simp only [Bool.cond_eq_ite] at e4
        split at e4
        · rename_i hp
          have hp := of_decide_eq_true hp
          obtain ⟨rfl, _⟩ := M.inv_pure e4
          obtain ⟨w', hr, hxt⟩ := n1 hp
          refine made rfl (x := .tuple #[.bool true, .int .i64 p, .int .i32 (Utf8.decode ⟨⟨l⟩⟩ p.toNat).1]) (by simp [execOp, hr]) hxt ?_
          exact RV.tup' (xs := [.bool true, .int .i64 p, .int .i32 (Utf8.decode ⟨⟨l⟩⟩ p.toNat).1]) (.cons (.bool _) (.cons (.int _ _) (.cons (.int _ _) .nil)))
        · rename_i hp
          have hp : ¬ p.toNat < l.length := fun h' => hp (decide_eq_true h')
          obtain ⟨rfl, _⟩ := M.inv_pure e4
          exact plain rfl rfl rfl (x := .tuple #[.bool false]) (by simp [execOp, n2 hp]) (RV.tup' (xs := [.bool false]) (.cons (.bool _) .nil))
      · cases e4
    · cases e
  case makeMap t r =>
    cases r with
    | some _ => cases e
    | none =>
      simp only at e
      obtain ⟨u, r1, r2, e1, e2, _⟩ := M.inv_bind e
      obtain ⟨hsite, rfl⟩ := inv_newB e1
      obtain ⟨rfl, _⟩ := M.inv_pure e2
      obtain ⟨m', y, w', hr, hxt, hv⟩ := makeMap_run (P := P) hi hsite t
      exact made rfl (by simp [execOp, hr]) hxt hv
  case lookup t x k ok =>
    simp only at e
    obtain ⟨vx, r1, r2, e1, e2, _⟩ := M.inv_bind e
    obtain ⟨hx, _⟩ := M.inv_lift e1
    obtain ⟨vk, r3, r4, e3, e4, _⟩ := M.inv_bind e2
    obtain ⟨hkx, _⟩ := M.inv_lift e3
    generalize hu : P.underlying t = du at e4
    split at e4
    · rename_i kt et s
      obtain ⟨b, r5, r6, e5, e6, _⟩ := M.inv_bind e4
      obtain ⟨hs, hl, _⟩ := M.inv_rdl e5
      obtain ⟨_, r7, r8, e7, e8, _⟩ := M.inv_bind e6
      obtain ⟨hg, _⟩ := M.inv_guard e7
      obtain ⟨h1, h2, _⟩ := inv_opt e8
      obtain ⟨y, hr, hv⟩ := lookup_run (P := P) hi (ht.eval hx) hs hl hu (ht.eval hkx) hg h1
      exact plain rfl h2 rfl (by simp [execOp, hr]) hv
    · cases e4
  case mapEntry t x k =>
    simp only at e
    obtain ⟨vx, r1, r2, e1, e2, _⟩ := M.inv_bind e
    obtain ⟨hx, _⟩ := M.inv_lift e1
    obtain ⟨vk, r3, r4, e3, e4, _⟩ := M.inv_bind e2
    obtain ⟨hkx, _⟩ := M.inv_lift e3
    generalize hu : P.underlying t = du at e4
    split at e4
    · rename_i kt et s
      obtain ⟨b, r5, r6, e5, e6, _⟩ := M.inv_bind e4
      obtain ⟨hs, hl, _⟩ := M.inv_rdl e5
      obtain ⟨_, r7, r8, e7, e8, _⟩ := M.inv_bind e6
      obtain ⟨hg, _⟩ := M.inv_guard e7
      simp only [Bool.and_eq_true] at hg
      obtain ⟨⟨g1, g2⟩, g3⟩ := hg
      generalize hf : findM P kt vk b.elems 0 = fm at e8
      generalize hz : zeroT P et = zm at e8
      split at e8
      · rename_i z
        obtain ⟨_, r9, r10, e9, e10, _⟩ := M.inv_bind e8
        obtain ⟨hzt, _⟩ := M.inv_guard e9
        obtain ⟨rfl, _⟩ := M.inv_pure e10
        obtain ⟨y, w', hr, hxt, hv⟩ := mapEntry_run (P := P) hi (ht.eval hx) hs hl g1 hu (ht.eval hkx) g2 g3 hf hz hzt
        exact made rfl (by simp [execOp, hr]) hxt hv
      · cases e8
    · cases e4
  case mapUpdate t x k v =>
    simp only at e
    obtain ⟨vx, r1, r2, e1, e2, _⟩ := M.inv_bind e
    obtain ⟨hx, _⟩ := M.inv_lift e1
    obtain ⟨vk, r3, r4, e3, e4, _⟩ := M.inv_bind e2
    obtain ⟨hkx, _⟩ := M.inv_lift e3
    obtain ⟨vv, r5, r6, e5, e6, _⟩ := M.inv_bind e4
    obtain ⟨hvx, _⟩ := M.inv_lift e5
    generalize hu : P.underlying t = du at e6
    split at e6
    · rename_i kt et s
      obtain ⟨b, r7, r8, e7, e8, _⟩ := M.inv_bind e6
      obtain ⟨hs, hl, _⟩ := M.inv_rdl e7
      obtain ⟨_, r9, r10, e9, e10, _⟩ := M.inv_bind e8
      obtain ⟨hg, _⟩ := M.inv_guard e9
      simp only [Bool.and_eq_true] at hg
      obtain ⟨⟨⟨g1, g2⟩, g3⟩, g4⟩ := hg
      generalize hf : findM P kt vk b.elems 0 = fm at e10
      split at e10
      · obtain ⟨rfl, _⟩ := M.inv_pure e10
        obtain ⟨w', hr, hxt⟩ := mapUpdate_run (P := P) hi (ht.eval hx) hs hl g1 hu (ht.eval hkx) (ht.eval hvx) g2 g3 hf g4
        exact wp_skip' (by simp [execOp, hr]) (hK S m w' _ hxt (.tup [] [] rfl (by simp)))
      · cases e10
    · cases e6
  case entryStore t x i v =>
    simp only at e
    obtain ⟨vx, r1, r2, e1, e2, _⟩ := M.inv_bind e
    obtain ⟨hx, _⟩ := M.inv_lift e1
    obtain ⟨vi, r3, r4, e3, e4, _⟩ := M.inv_bind e2
    obtain ⟨hix, _⟩ := M.inv_lift e3
    obtain ⟨vv, r5, r6, e5, e6, _⟩ := M.inv_bind e4
    obtain ⟨hvx, _⟩ := M.inv_lift e5
    split at e6
    · rename_i s kk i'
      obtain ⟨b, r7, r8, e7, e8, _⟩ := M.inv_bind e6
      obtain ⟨hs, hl, _⟩ := M.inv_rdl e7
      obtain ⟨_, r9, r10, e9, e10, _⟩ := M.inv_bind e8
      obtain ⟨hg, _⟩ := M.inv_guard e9
      simp only [Bool.and_eq_true] at hg
      obtain ⟨⟨g1, g2⟩, g3⟩ := hg
      generalize hk : keyAt b.elems i'.toNat = ka at e10
      split at e10
      · rename_i key
        obtain ⟨rfl, _⟩ := M.inv_pure e10
        have hI := ht.eval hix
        generalize hII : a.eval i = I at hI
        cases hI
        obtain ⟨w', hr, hxt⟩ := entryStore_run (P := P) hi (ht.eval hx) hs hl g1 t (kk := kk) (of_decide_eq_true g3) (ht.eval hvx) g2 hk
        exact wp_skip' (by simp [execOp, hII, hr]) (hK S m w' _ hxt (.tup [] [] rfl (by simp)))
      · cases e10
    · cases e6
  case call c =>
    obtain ⟨callee, args, argTypes⟩ := c
    cases callee with
    | builtin b =>
      simp only at e
      obtain ⟨vs, r1, r2, e1, e2, _⟩ := M.inv_bind e
      obtain ⟨hvs, _⟩ := M.inv_lift e1
      have hxs := ht.args hvs
      obtain ⟨S', m', y, w', hr, hxt, hv⟩ := builtinV_run e2 hi hxs type (args.map fun | .const _ => true | _ => false)
      refine made rfl ?_ hxt hv
      have hargs : (args.toList.map a.eval).toArray = args.map a.eval := by apply Array.ext'; simp
      rw [hargs] at hr
      have ht2 : argTypes.toList.toArray = argTypes := by simp
      rw [ht2] at hr
      simp only [execOp, resolve, Sem.run_bind, Sem.run_pure, Result.andThen_ok, invoke]
      exact hr
    | value f =>
      simp only at e
      obtain ⟨vs, r1, r2, e1, e2, _⟩ := M.inv_bind e
      obtain ⟨hvs, _⟩ := M.inv_lift e1
      have hxs := ht.args hvs
      generalize hf : evalO cfg.glob ts f = fv at e2
      split at e2
      · rename_i fid fa fc
        obtain ⟨_, r3, r4, e3, e4, _⟩ := M.inv_bind e2
        obtain ⟨hg, _⟩ := M.inv_guard e3
        have hF := ht.eval hf
        generalize hFF : a.eval f = F at hF
        cases hF with
        | func _ _ _ xa xc g1 g2 g3 g4 =>
          have hfn : ∃ fn c, P.funcs[fid]? = some fn ∧ fn.body = some c := by
            cases hq : P.funcs[fid]? with
            | none => rw [hq] at hg; simp at hg
            | some fn =>
              rw [hq] at hg
              simp only [Option.any_some] at hg
              obtain ⟨c, hc⟩ := Option.isSome_iff_exists.1 hg
              exact ⟨fn, c, rfl, hc⟩
          have hcl := hcall e4 hi (((show RVs m S w fa xa from ⟨g1, g3⟩).append hxs).append (show RVs m S w fc xc from ⟨g2, g4⟩)) ht.glob hex hfn
          obtain ⟨fn, c, hfn, hbody⟩ := hfn
          have hrun : (execOp a.eval ⟨dst, .call ⟨.value f, args, argTypes⟩, type, pos, after, guard⟩).run P w = .ok (.enter fid ((xa ++ args.toList.map a.eval ++ xc).toArray)) w := by
            have hargs : (⟨xa⟩ : Array Value) ++ args.map a.eval ++ ⟨xc⟩ = (xa ++ args.toList.map a.eval ++ xc).toArray := by apply Array.ext'; simp
            simp only [execOp, resolve, Sem.run_bind, Sem.run_pure, Result.andThen_ok, hFF, Deferred.ofValue, invoke, callFunc, run_program, hfn, hnames fid fn hfn, hbody]
            simp only [Bool.false_eq_true, if_false, Option.isNone_some, Sem.run_pure, hargs]
          unfold Oper.wp
          rw [hrun, Oper.upon_enter]
          refine hcl.mono ?_
          rintro e' w' ⟨S', m', x, rfl, hxt, hv⟩
          exact hK S' m' w' x hxt hv
      · cases e2
    | invoke r mth => cases e
  all_goals cases e
end
end Go.Proofs.YthhpdnlfhofanaaGreatDoor
namespace Go.Proofs.YthhpdnlfhofanaaGreatDoor
open Go.RowKit
set_option linter.unusedVariables false
set_option linter.unusedSimpArgs false
/-- Every slot that code writes is there. -/
def dstOk (n : Nat) (o : Oper) : Bool := match o.dst with
  | some d => Nat.blt d n
  | none => true
def codeOk (n : Nat) : Code → Bool
  | .region _ ops _ => ops.toList.all (dstOk n)
  | .seq a b => codeOk n a && codeOk n b
  | .cond _ a b => codeOk n a && codeOk n b
  | .block _ b | .loop b | .scope b => codeOk n b
  | _ => true
/-- The evaluator's state against the model's. -/
structure Sim (gl : Gl) (C : Ctx) (p : Nat) (m0 : Gh) (n : Nat) (st : St) (a : Act) (w : World) : Prop where
  ex : ∃ S m, Inv C S m st.heap w ∧ TR gl m S w st.tmps a ∧ ∀ i, i < p → ∀ r, m0 i = some r → m i = some r
  size : a.tmps.size = n
  defers : a.defers = C.ds
  exact_ : ExC gl C
section
variable {gl : Gl} {P : Program} {cfg : Cfg} {call : CallF} {C : Ctx} {p n : Nat} {m0 : Gh}
theorem put_size (a : Act) (d : Option Tmp) (x : Value) : (a.put d x).tmps.size = a.tmps.size := by cases d <;> simp [Act.put]
theorem put_defers (a : Act) (d : Option Tmp) (x : Value) : (a.put d x).defers = a.defers := by cases d <;> rfl
theorem dst_lt {n : Nat} {o : Oper} (h : dstOk n o = true) : ∀ d, o.dst = some d → d < n := by
  intro d hd
  unfold dstOk at h
  rw [hd] at h
  exact Nat.le_of_ble_eq_true h
theorem wanted_run {ops : Array Oper} {ts : Tmps} {a : Act} {m : Gh} {S : Nat → Prop} {w : World} (ht : TR gl m S w ts a) {o : Oper} {b : Bool} (e : wantedV ops.toList ts o = some b) : Region.wanted o (yielded ops a.tmps) = b := by
  unfold wantedV at e
  unfold Region.wanted
  split at e
  · rename_i hg; rw [hg]; injection e with e
  · rename_i j want hg
    rw [hg]
    simp only
    unfold yielded
    have hj : ops.toList[j]? = ops[j]? := by simp
    rw [hj] at e
    split at e
    · rename_i d hd
      rw [hd]
      simp only [Option.bind_some]
      split at e
      · rename_i b' hb
        injection e with e
        obtain ⟨hlt, hv⟩ := ht.get d _ hb
        have hx : a.tmps[d]? = some (a.tmps.getD d undef) := by simp [hlt]
        generalize a.tmps.getD d undef = X at hv hx
        cases hv
        rw [hx]
        simp only
        rw [← e]
        rfl
      · rename_i hb
        injection e with e
        obtain ⟨hlt, hv⟩ := ht.get d _ hb
        have hx : a.tmps[d]? = some (a.tmps.getD d undef) := by simp [hlt]
        generalize a.tmps.getD d undef = X at hv hx
        cases hv
        rw [hx]
        simp only
        rw [← e]
        rfl
      · cases e
    · cases e
/-- One operation of a region. -/
theorem evIx_wp (hcall : CallOk P cfg call) (hnames : NamesOk P) {id i : Nat} {ops : Array Oper} {o : Oper} {st st' : St} {ft : Foot} (e : evIx P cfg call id ops.toList i o st = some (st', ft)) (ho : ops[i]? = some o) (hd : dstOk n o = true) {a : Act} {w : World}
    (hs : Sim cfg.glob C p m0 n st a w) {K : Act → World → Prop} {Q : Exit → Act → World → Prop} (hK : ∀ a' w', Sim cfg.glob C p m0 n st' a' w' → K a' w') : wpOp P ops Q i K a w := by
  obtain ⟨⟨S, m, hi, ht, hp⟩, hsz, hdf, hex⟩ := hs
  have hlt := dst_lt hd
  unfold evIx at e
  unfold wpOp
  rw [ho]
  simp only
  split at e
  · cases e
  · rename_i hw
    rw [wanted_run ht hw]
    simp only [Bool.false_eq_true, if_false]
    injection e with e
    injection e with e1 e2
    subst e1
    refine hK _ _ ⟨⟨S, m, hi, ht.put (.tup [] [] rfl (by simp)) o.dst (fun d h => by rw [hsz]; exact hlt d h), hp⟩, by rw [put_size]; exact hsz, by rw [put_defers]; exact hdf, hex⟩
  · rename_i hw
    rw [wanted_run ht hw]
    simp only [if_true]
    split at e
    · cases e
    · rename_i v u r he
      injection e with e
      injection e with e1 e2
      subst e1
      refine .inl (evOp_wp hcall hnames hex he hi ht fun S' m' w' x hx hv => hK _ _ ⟨⟨S', m', hx.inv, ?_, fun i hip r hr => hx.mono _ _ (hp i hip r hr)⟩, by rw [put_size]; exact hsz, by rw [put_defers]; exact hdf, hex⟩)
      exact (ht.mono hx.rv).put hv o.dst (fun d h => by rw [hsz]; exact hlt d h)
theorem evOps_wp (hcall : CallOk P cfg call) (hnames : NamesOk P) {id : Nat} {ops : Array Oper} {Q : Exit → Act → World → Prop} : ∀ {rest : List Oper} {i : Nat} {st st' : St} {fs : List Foot}, evOps P cfg call id ops.toList i rest st = some (st', fs) →
    (∀ k, rest[k]? = ops[i + k]?) → (∀ o ∈ rest, dstOk n o = true) → ∀ {a : Act} {w : World}, Sim cfg.glob C p m0 n st a w → (∀ a' w', Sim cfg.glob C p m0 n st' a' w' → Q .normal a' w') → wpOps P ops Q (List.range' i rest.length) a w
  | [], i, st, st', fs, e, hr, hd, a, w, hs, hQ => by
    simp only [evOps, Option.some.injEq, Prod.mk.injEq] at e
    obtain ⟨rfl, _⟩ := e
    exact hQ a w hs
  | o :: rest, i, st, st', fs, e, hr, hd, a, w, hs, hQ => by
    simp only [evOps] at e
    cases he : evIx P cfg call id ops.toList i o st with
    | none => rw [he] at e; cases e
    | some q =>
      obtain ⟨st1, f1⟩ := q
      rw [he] at e
      simp only at e
      cases he2 : evOps P cfg call id ops.toList (i + 1) rest st1 with
      | none => rw [he2] at e; cases e
      | some q2 =>
        obtain ⟨st2, f2⟩ := q2
        rw [he2] at e
        simp only [Option.some.injEq, Prod.mk.injEq] at e
        obtain ⟨rfl, _⟩ := e
        have ho : ops[i]? = some o := by have := hr 0; simpa using this.symm
        rw [List.length_cons, List.range'_succ, wpOps_cons]
        refine evIx_wp hcall hnames he ho (hd o (List.mem_cons_self ..)) hs fun a' w' hs' => ?_
        exact evOps_wp hcall hnames he2 (fun k => by have := hr (k + 1); rw [show i + 1 + k = i + (k + 1) by omega]; simpa using this) (fun o ho => hd o (List.mem_cons_of_mem _ ho)) hs' hQ
end
end Go.Proofs.YthhpdnlfhofanaaGreatDoor
namespace Go.Proofs.YthhpdnlfhofanaaGreatDoor
open Go.RowKit
set_option linter.unusedVariables false
set_option linter.unusedSimpArgs false
section
variable {P : Program} {C : Ctx} {m m' : Gh} {S : Nat → Prop} {h : Heap} {w : World} {ρ : List (Nat × Nat)}
/-- The new names lead to where the old ones led. -/
def RenOk (ρ : List (Nat × Nat)) (m m' : Gh) : Prop := ∀ i k, renN ρ i = some k → ∀ r, m i = some r → m' k = some r
theorem renL_run (hρ : RenOk ρ m m') {v v' : V} {x : Value} (e : renL ρ v = some v') (hx : RV m S w v x) : RV m' S w v' x := by
  cases hx with
  | ptr s i o r h1 h2 h3 =>
    simp only [renL] at e
    obtain ⟨k, hk, rfl⟩ := Option.map_eq_some_iff.1 e
    exact .ptr k i o r (hρ _ _ hk _ h1) h2 h3
  | refN s off r a h1 h2 =>
    simp only [renL] at e
    obtain ⟨k, hk, rfl⟩ := Option.map_eq_some_iff.1 e
    exact .refN k off r a (hρ _ _ hk _ h1) h2
  | slf s r x h1 h2 h3 =>
    simp only [renL] at e
    obtain ⟨k, hk, rfl⟩ := Option.map_eq_some_iff.1 e
    exact .slf k r x (hρ _ _ hk _ h1) h2 h3
  | ref s off len cm cap r h1 h2 h3 h4 h5 h6 =>
    simp only [renL] at e
    obtain ⟨k, hk, rfl⟩ := Option.map_eq_some_iff.1 e
    exact .ref k off len cm cap r (hρ _ _ hk _ h1) h2 h3 h4 h5 h6
  | it s r h1 h2 =>
    simp only [renL] at e
    obtain ⟨k, hk, rfl⟩ := Option.map_eq_some_iff.1 e
    exact .it k r (hρ _ _ hk _ h1) h2
  | map s r h1 h2 =>
    simp only [renL] at e
    obtain ⟨k, hk, rfl⟩ := Option.map_eq_some_iff.1 e
    exact .map k r (hρ _ _ hk _ h1) h2
  | func f a c xs ys h1 h2 h3 h4 =>
    simp only [renL, Bool.cond_eq_ite] at e
    split at e
    · rename_i hg
      simp only [Bool.and_eq_true] at hg
      injection e with e; subst e
      obtain rfl := isEmpty_nil hg.1
      obtain rfl := isEmpty_nil hg.2
      exact .func f [] [] xs ys h1 h2 (by simp) (by simp)
    · cases e
  | rptr cs o b off u h1 h2 h3 h4 =>
    simp only [renL, Option.some.injEq] at e; subst e
    exact .rptr cs o b off u h1 h2 h3 (fun j v hv => (h4 j v hv).tree (h3 j v hv))
  | agg cs xs h1 h2 => simp [renL] at e
  | tup cs xs h1 h2 => simp [renL] at e
  | bool b => simp only [renL, Option.some.injEq] at e; subst e; exact .bool b
  | int k n => simp only [renL, Option.some.injEq] at e; subst e; exact .int k n
  | str s => simp only [renL, Option.some.injEq] at e; subst e; exact .str s
  | nilp => simp only [renL, Option.some.injEq] at e; subst e; exact .nilp
  | nils => simp only [renL, Option.some.injEq] at e; subst e; exact .nils
  | nilf => simp only [renL, Option.some.injEq] at e; subst e; exact .nilf
  | nili => simp only [renL, Option.some.injEq] at e; subst e; exact .nili
  | ifc t x => simp only [renL, Option.some.injEq] at e; subst e; exact .ifc t x
  | nilm => simp only [renL, Option.some.injEq] at e; subst e; exact .nilm
  | emp a => simp only [renL, Option.some.injEq] at e; subst e; exact .emp a
  | lst0 a c => simp only [renL, Option.some.injEq] at e; subst e; exact .lst0 a c
  | lst xs b off z c u h1 h2 h3 h4 h5 h6 =>
    simp only [renL, Option.some.injEq] at e; subst e
    exact RV.tree (.lst xs b off z c u h1 h2 h3 h4 h5 h6) rfl
theorem renLs_run (hρ : RenOk ρ m m') : ∀ {vs vs' : List V} {xs : List Value}, renLs ρ vs = some vs' → RVs m S w vs xs → RVs m' S w vs' xs
  | [], vs', xs, e, hx => by
    simp only [renLs, Option.some.injEq] at e; subst e
    obtain rfl := hx.nil_inv
    exact .nil
  | v :: vs, vs', xs, e, hx => by
    simp only [renLs] at e
    split at e
    · rename_i a b ha hb
      injection e with e; subst e
      obtain ⟨x, xs', rfl, h1, h2⟩ := hx.cons_inv
      exact .cons (renL_run hρ ha h1) (renLs_run hρ hb h2)
    · cases e
theorem renF_eq {v : V} (hn : ∀ f a c, v ≠ .func f a c) : renF ρ v = renL ρ v := by cases v <;> first | rfl | exact absurd rfl (hn _ _ _)
theorem renF_run (hρ : RenOk ρ m m') {v v' : V} {x : Value} (e : renF ρ v = some v') (hx : RV m S w v x) : RV m' S w v' x := by
  by_cases hf : ∃ f a c, v = .func f a c
  · obtain ⟨f, a, c, rfl⟩ := hf
    simp only [renF] at e
    split at e
    · rename_i a' c' ha hc
      injection e with e; subst e
      cases hx with
      | func _ _ _ xs ys h1 h2 h3 h4 =>
        have g1 := renLs_run (S := S) (w := w) hρ ha (xs := xs) ⟨h1, h3⟩
        have g2 := renLs_run (S := S) (w := w) hρ hc (xs := ys) ⟨h2, h4⟩
        exact .func f a' c' xs ys g1.1 g2.1 g1.2 g2.2
    · cases e
  · rw [renF_eq (fun f a c e' => hf ⟨f, a, c, e'⟩)] at e
    exact renL_run hρ e hx
theorem renFs_run (hρ : RenOk ρ m m') : ∀ {vs vs' : List V} {xs : List Value}, renFs ρ vs = some vs' → RVs m S w vs xs → RVs m' S w vs' xs
  | [], vs', xs, e, hx => by
    simp only [renFs, Option.some.injEq] at e; subst e
    obtain rfl := hx.nil_inv
    exact .nil
  | v :: vs, vs', xs, e, hx => by
    simp only [renFs] at e
    split at e
    · rename_i a b ha hb
      injection e with e; subst e
      obtain ⟨x, xs', rfl, h1, h2⟩ := hx.cons_inv
      exact .cons (renF_run hρ ha h1) (renFs_run hρ hb h2)
    · cases e
theorem renA_eq {v : V} (hn : ∀ cs, v ≠ .agg cs) : renA ρ v = renF ρ v := by cases v <;> first | rfl | exact absurd rfl (hn _)
theorem renA_run (hρ : RenOk ρ m m') {v v' : V} {x : Value} (e : renA ρ v = some v') (hx : RV m S w v x) : RV m' S w v' x := by
  by_cases hf : ∃ cs, v = .agg cs
  · obtain ⟨cs, rfl⟩ := hf
    simp only [renA] at e
    obtain ⟨cs', hcs, rfl⟩ := Option.map_eq_some_iff.1 e
    obtain ⟨xs, rfl, hxs⟩ := hx.agg_inv
    exact RV.agg' (renFs_run hρ hcs hxs)
  · rw [renA_eq (fun cs e' => hf ⟨cs, e'⟩)] at e
    exact renF_run hρ e hx
theorem renAs_run (hρ : RenOk ρ m m') : ∀ {vs vs' : List V} {xs : List Value}, renAs ρ vs = some vs' → RVs m S w vs xs → RVs m' S w vs' xs
  | [], vs', xs, e, hx => by
    simp only [renAs, Option.some.injEq] at e; subst e
    obtain rfl := hx.nil_inv
    exact .nil
  | v :: vs, vs', xs, e, hx => by
    simp only [renAs] at e
    split at e
    · rename_i a b ha hb
      injection e with e; subst e
      obtain ⟨x, xs', rfl, h1, h2⟩ := hx.cons_inv
      exact .cons (renA_run hρ ha h1) (renAs_run hρ hb h2)
    · cases e
theorem renT_eq {v : V} (hn : ∀ cs, v ≠ .tup cs) : renT ρ v = renA ρ v := by cases v <;> first | rfl | exact absurd rfl (hn _)
theorem renT_run (hρ : RenOk ρ m m') {v v' : V} {x : Value} (e : renT ρ v = some v') (hx : RV m S w v x) : RV m' S w v' x := by
  by_cases hf : ∃ cs, v = .tup cs
  · obtain ⟨cs, rfl⟩ := hf
    simp only [renT] at e
    obtain ⟨cs', hcs, rfl⟩ := Option.map_eq_some_iff.1 e
    obtain ⟨xs, rfl, hxs⟩ := hx.tup_inv
    exact RV.tup' (renAs_run hρ hcs hxs)
  · rw [renT_eq (fun cs e' => hf ⟨cs, e'⟩)] at e
    exact renA_run hρ e hx
theorem renL_leaf {v v' : V} (e : renL ρ v = some v') : V.leaf v' = true := by
  cases v <;> simp only [renL, Bool.cond_eq_ite] at e <;> first
    | (injection e with e; subst e; rfl)
    | (obtain ⟨k, _, rfl⟩ := Option.map_eq_some_iff.1 e; rfl)
    | (cases e)
    | skip
  split at e
  · injection e with e; subst e; rfl
  · cases e
theorem RV.treeA {m m' : Gh} {S : Nat → Prop} {w : World} {v : V} {x : Value} (h : RV m S w v x) (ht : V.treeA v = true) : RV m' S w v x := by
  by_cases hf : ∃ cs, v = .agg cs
  · obtain ⟨cs, rfl⟩ := hf
    obtain ⟨xs, rfl, hxs⟩ := h.agg_inv
    have ht' : ∀ v ∈ cs, V.isTree v = true := List.all_eq_true.1 ht
    exact RV.agg' ⟨hxs.1, fun i v x hv hx => (hxs.2 i v x hv hx).tree (ht' v (List.mem_of_getElem? hv))⟩
  · refine h.tree ?_
    cases v <;> first | exact ht | exact absurd ⟨_, rfl⟩ hf
theorem renF_leaf {v v' : V} (e : renF ρ v = some v') : V.leaf v' = true := by
  by_cases hf : ∃ f a c, v = .func f a c
  · obtain ⟨f, a, c, rfl⟩ := hf
    simp only [renF] at e
    split at e
    · injection e with e; subst e; rfl
    · cases e
  · rw [renF_eq (fun f a c e' => hf ⟨f, a, c, e'⟩)] at e
    exact renL_leaf e
theorem renFs_get : ∀ {vs vs' : List V}, renFs ρ vs = some vs' → vs'.length = vs.length ∧ ∀ (j : Nat) v', vs'[j]? = some v' → ∃ v, vs[j]? = some v ∧ renF ρ v = some v'
  | [], vs', e => by simp only [renFs, Option.some.injEq] at e; subst e; simp
  | v :: vs, vs', e => by
    simp only [renFs] at e
    split at e
    · rename_i a b ha hb
      injection e with e; subst e
      obtain ⟨h1, h2⟩ := renFs_get hb
      refine ⟨by simp [h1], fun j v' hv => ?_⟩
      match j with
      | 0 => simp at hv; subst hv; exact ⟨v, rfl, ha⟩
      | j + 1 => exact h2 j v' (by simpa using hv)
    · cases e
theorem renEs_get : ∀ {vs vs' : List (List V)}, renEs ρ vs = some vs' → vs'.length = vs.length ∧ ∀ (j : Nat) c', vs'[j]? = some c' → ∃ c, vs[j]? = some c ∧ renFs ρ c = some c'
  | [], vs', e => by simp only [renEs, Option.some.injEq] at e; subst e; simp
  | v :: vs, vs', e => by
    simp only [renEs] at e
    split at e
    · rename_i a b ha hb
      injection e with e; subst e
      obtain ⟨h1, h2⟩ := renEs_get hb
      refine ⟨by simp [h1], fun j v' hv => ?_⟩
      match j with
      | 0 => simp at hv; subst hv; exact ⟨v, rfl, ha⟩
      | j + 1 => exact h2 j v' (by simpa using hv)
    · cases e
theorem renBs_get : ∀ {vs vs' : List Bk}, renBs ρ vs = some vs' → vs'.length = vs.length ∧ ∀ (j : Nat) c', vs'[j]? = some c' → ∃ c, vs[j]? = some c ∧ renB ρ c = some c'
  | [], vs', e => by simp only [renBs, Option.some.injEq] at e; subst e; simp
  | v :: vs, vs', e => by
    simp only [renBs] at e
    split at e
    · rename_i a b ha hb
      injection e with e; subst e
      obtain ⟨h1, h2⟩ := renBs_get hb
      refine ⟨by simp [h1], fun j v' hv => ?_⟩
      match j with
      | 0 => simp at hv; subst hv; exact ⟨v, rfl, ha⟩
      | j + 1 => exact h2 j v' (by simpa using hv)
    · cases e
theorem renB_flags {b b' : Bk} (e : renB ρ b = some b') : b'.live = b.live ∧ b'.wr = b.wr ∧ b'.box = b.box := by
  unfold renB at e
  simp only [Bool.cond_eq_ite] at e
  split at e
  · split at e
    · obtain ⟨es, _, rfl⟩ := Option.map_eq_some_iff.1 e; exact ⟨rfl, rfl, rfl⟩
    · injection e with e; subst e; exact ⟨rfl, rfl, rfl⟩
  · injection e with e; subst e; exact ⟨rfl, rfl, rfl⟩
theorem renB_run (hρ : RenOk ρ m m') {b b' : Bk} (e : renB ρ b = some b') (hl : b.live = true) {r : RB} (hb : BkR m S w r b) : BkR m' S w r b' := by
  unfold renB at e
  simp only [hl, cond_true] at e
  cases hbox : b.box with
  | true =>
    simp only [hbox, cond_true] at e
    obtain ⟨es, hes, rfl⟩ := Option.map_eq_some_iff.1 e
    obtain ⟨hlen, hget⟩ := renEs_get hes
    refine ⟨fun hn => ?_, fun hn => ?_⟩
    · have := (hb.isnil hn).2.1; rw [hbox] at this; cases this
    · obtain ⟨o, ho, hr⟩ := hb.obj hn
      refine ⟨o, ho, ?_⟩
      cases o with
      | cells arr ty fr =>
        obtain ⟨h0, h2, h3, h4, g1, g2, h5, h6, h7, h8⟩ := hr
        refine ⟨⟨h0.1, fun q => ⟨(h0.2 q).1, (h0.2 q).2.1, fun _ => (h0.2 q).2.2 hbox⟩⟩, h2, h3, h4, (fun hx => by simp [hbox] at hx), g2, by simp [hlen, h5], (fun hx => by simp [hbox] at hx), fun i c j v hc hv => ?_, fun i c hc => ?_⟩
        · obtain ⟨c0, hc0, hcr⟩ := hget i c hc
          obtain ⟨v0, hv0, hvr⟩ := (renFs_get hcr).2 j v hv
          exact renF_leaf hvr
        · obtain ⟨c0, hc0, hcr⟩ := hget i c hc
          refine ⟨by rw [(renFs_get hcr).1]; exact (h8 i c0 hc0).1, fun j v hv => ?_⟩
          obtain ⟨v0, hv0, hvr⟩ := (renFs_get hcr).2 j v hv
          obtain ⟨u, hu, hv'⟩ := (h8 i c0 hc0).2 j v0 hv0
          exact ⟨u, hu, renF_run hρ hvr hv'⟩
      | stringIter s pos =>
        obtain ⟨h0, h1, h2⟩ := hr
        refine ⟨h0, rfl, ?_⟩
        rw [h2] at hes
        simp only [renEs, renFs, renF, renL, Option.some.injEq] at hes
        exact hes.symm
      | map es' c => have := hr.2.1; rw [hbox] at this; cases this
      | _ => exact hr.elim
  | false =>
    simp only [hbox, cond_false, Option.some.injEq] at e
    subst e
    refine ⟨hb.isnil, fun hn => ?_⟩
    obtain ⟨o, ho, hr⟩ := hb.obj hn
    refine ⟨o, ho, ?_⟩
    cases o with
    | cells arr ty fr =>
      obtain ⟨h0, h2, h3, h4, g1, g2, h5, h6, h7, h8⟩ := hr
      refine ⟨h0, h2, h3, h4, g1, g2, h5, h6, h7, fun i c hc => ⟨(h8 i c hc).1, fun j v hv => ?_⟩⟩
      obtain ⟨u, hu, hv'⟩ := (h8 i c hc).2 j v hv
      exact ⟨u, hu, hv'.tree (h6 hbox i c j v hc hv)⟩
    | stringIter s pos => have := hr.2.1; rw [hbox] at this; cases this
    | map es' c =>
      obtain ⟨h0, h1, h2, hcl, h3⟩ := hr
      refine ⟨h0, h1, h2, hcl, fun i c e hc he => ?_⟩
      obtain ⟨hbn, k, v, rfl, h5, h6, h7, h8⟩ := h3 i c e hc he
      exact ⟨hbn, k, v, rfl, h5, h6, h7.treeA h5, h8.treeA h6⟩
    | _ => exact hr.elim
end
end Go.Proofs.YthhpdnlfhofanaaGreatDoor
namespace Go.Proofs.YthhpdnlfhofanaaGreatDoor
open Go.RowKit
set_option linter.unusedVariables false
set_option linter.unusedSimpArgs false
section
variable {gl : Gl} {P : Program} {C : Ctx} {m m' : Gh} {S : Nat → Prop} {h : Heap} {w : World}
theorem treeT_run {v v' : V} {ids rr : List Nat} (e : treeT v h = some ((v', ids), rr)) (hi : Inv C S m h w) {x : Value} (hx : RV m S w v x) : TreeOk m S h w ids fun S' => RV m S' w v' x := by
  by_cases hf : ∃ cs, v = .tup cs
  · obtain ⟨cs, rfl⟩ := hf
    simp only [treeT] at e
    obtain ⟨⟨a, i⟩, r1, r2, e1, e2, _⟩ := M.inv_bind e
    obtain ⟨e5, _⟩ := M.inv_pure e2
    injection e5 with e5 e6
    subst e5; subst e6
    obtain ⟨xs, rfl, hxs⟩ := hx.tup_inv
    obtain ⟨_, h2, h3⟩ := treeAs_run e1 hi hxs
    exact ⟨h2, fun S' hS hid => RV.tup' (h3 S' hS hid)⟩
  · have : treeT v = treeA v := by cases v <;> first | rfl | exact absurd ⟨_, rfl⟩ hf
    rw [this] at e
    exact (treeA_run e hi hx).2
theorem ownL_run {tyn n : Nat} {v v' : V} {h' : Heap} (e : ownL tyn n v h = some (v', h')) (hi : Inv C S m h w) {x : Value} (hx : RV m S w v x) : ∃ m', Ext C S m w S m' h' w ∧ RV m' S w v' x := by
  have new : ∀ {A : Option Addr} {tn : Nat}, (tn ≠ 0 → A = none) → x = .slice A 0 0 → (match hget h n with
    | none => some (V.ref n 0 0 0, (n, (⟨true, false, true, [], tn⟩ : Bk)) :: h)
    | some _ => none) = some (v', h') → ∃ m', Ext C S m w S m' h' w ∧ RV m' S w v' x := by
    rintro A tn htn rfl e
    split at e
    · rename_i hs
      injection e with e
      injection e with e1 e2
      subst e1; subst e2
      exact phantom_ext hi hs 1 A tn htn
    · cases e
  cases v <;> simp only [ownL] at e <;> first
    | (injection e with e; injection e with e1 e2; subst e1; subst e2; exact ⟨m, Ext.refl hi, hx⟩)
    | (cases hx; first | exact new (fun _ => rfl) rfl e | exact new (fun h => absurd rfl h) rfl e)
theorem ownLs_run {tyn : Nat} : ∀ {n : Nat} {vs vs' : List V} {h h' : Heap} {m : Gh}, ownLs tyn n vs h = some (vs', h') → Inv C S m h w → ∀ {xs : List Value}, RVs m S w vs xs → ∃ m', Ext C S m w S m' h' w ∧ RVs m' S w vs' xs
  | n, [], vs', h, h', m, e, hi, xs, hx => by
    simp only [ownLs, Option.some.injEq, Prod.mk.injEq] at e
    obtain ⟨rfl, rfl⟩ := e
    obtain rfl := hx.nil_inv
    exact ⟨m, Ext.refl hi, .nil⟩
  | n, v :: vs, vs', h, h', m, e, hi, xs, hx => by
    simp only [ownLs] at e
    split at e
    · cases e
    · rename_i a h1 e1
      split at e
      · cases e
      · rename_i b h2 e2
        injection e with e
        injection e with e3 e4
        subst e3; subst e4
        obtain ⟨x, xs', rfl, hx1, hx2⟩ := hx.cons_inv
        obtain ⟨m1, hx3, hv⟩ := ownL_run e1 hi hx1
        obtain ⟨m2, hx4, hvs⟩ := ownLs_run e2 hx3.inv (hx2.mono hx3.mono (fun _ h => h) (fun _ _ => rfl))
        exact ⟨m2, hx3.trans hx4, .cons (hx4.rv _ _ hv) hvs⟩
theorem ownA_run {tyn n : Nat} {v v' : V} {h' : Heap} (e : ownA tyn n v h = some (v', h')) (hi : Inv C S m h w) {x : Value} (hx : RV m S w v x) : ∃ m', Ext C S m w S m' h' w ∧ RV m' S w v' x := by
  by_cases hf : ∃ cs, v = .agg cs
  · obtain ⟨cs, rfl⟩ := hf
    simp only [ownA] at e
    split at e
    · cases e
    · rename_i a h1 e1
      injection e with e
      injection e with e3 e4
      subst e3; subst e4
      obtain ⟨xs, rfl, hxs⟩ := hx.agg_inv
      obtain ⟨m1, hx3, hv⟩ := ownLs_run e1 hi hxs
      exact ⟨m1, hx3, RV.agg' hv⟩
  · have : ownA tyn n v h = ownL tyn n v h := by cases v <;> first | rfl | exact absurd ⟨_, rfl⟩ hf
    rw [this] at e
    exact ownL_run e hi hx
theorem ownAs_run : ∀ {n : Nat} {vs vs' : List V} {h h' : Heap} {m : Gh}, ownAs n vs h = some (vs', h') → Inv C S m h w → ∀ {xs : List Value}, RVs m S w vs xs → ∃ m', Ext C S m w S m' h' w ∧ RVs m' S w vs' xs
  | n, [], vs', h, h', m, e, hi, xs, hx => by
    simp only [ownAs, Option.some.injEq, Prod.mk.injEq] at e
    obtain ⟨rfl, rfl⟩ := e
    obtain rfl := hx.nil_inv
    exact ⟨m, Ext.refl hi, .nil⟩
  | n, v :: vs, vs', h, h', m, e, hi, xs, hx => by
    simp only [ownAs] at e
    split at e
    · cases e
    · rename_i a h1 e1
      split at e
      · cases e
      · rename_i b h2 e2
        injection e with e
        injection e with e3 e4
        subst e3; subst e4
        obtain ⟨x, xs', rfl, hx1, hx2⟩ := hx.cons_inv
        obtain ⟨m1, hx3, hv⟩ := ownA_run e1 hi hx1
        obtain ⟨m2, hx4, hvs⟩ := ownAs_run e2 hx3.inv (hx2.mono hx3.mono (fun _ h => h) (fun _ _ => rfl))
        exact ⟨m2, hx3.trans hx4, .cons (hx4.rv _ _ hv) hvs⟩
theorem ownT_run {v v' : V} {h' : Heap} (e : ownT v h = some (v', h')) (hi : Inv C S m h w) {x : Value} (hx : RV m S w v x) : ∃ m', Ext C S m w S m' h' w ∧ RV m' S w v' x := by
  by_cases hf : ∃ cs, v = .tup cs
  · obtain ⟨cs, rfl⟩ := hf
    simp only [ownT] at e
    split at e
    · cases e
    · rename_i a h1 e1
      injection e with e
      injection e with e3 e4
      subst e3; subst e4
      obtain ⟨xs, rfl, hxs⟩ := hx.tup_inv
      obtain ⟨m1, hx3, hv⟩ := ownAs_run e1 hi hxs
      exact ⟨m1, hx3, RV.tup' hv⟩
  · have : ownT v h = ownA 0 1000000000 v h := by cases v <;> first | rfl | exact absurd ⟨_, rfl⟩ hf
    rw [this] at e
    exact ownA_run e hi hx
theorem shapeV_run {k : Nat} {v v' : V} {h' : Heap} (e : shapeV k v h = some (v', h')) (hi : Inv C S m h w) {x : Value} (hx : RV m S w v x) : ∃ S' m', Ext C S m w S' m' h' w ∧ RV m' S' w v' x := by
  unfold shapeV at e
  split at e
  · split at e
    · rename_i r ids rr e1
      split at e
      · rename_i u rr2 e2
        injection e with e
        injection e with e3 e4
        subst e3; subst e4
        obtain ⟨_, hq⟩ := treeT_run e1 hi hx
        obtain ⟨S1, hx1, hf1, _⟩ := freeze_run e2 hi
        exact ⟨S1, m, hx1, hq S1 hx1.sub hf1⟩
      · cases e
    · cases e
  · obtain ⟨m', h1, h2⟩ := ownT_run e hi hx
    exact ⟨S, m', h1, h2⟩
  · injection e with e
    injection e with e3 e4
    subst e3; subst e4
    exact ⟨S, m, Ext.refl hi, hx⟩
theorem shape1_run {tyn k slot : Nat} {v v' : V} {h' : Heap} (e : shape1 tyn k slot v h = some (v', h')) (hi : Inv C S m h w) {x : Value} (hx : RV m S w v x) : ∃ S' m', Ext C S m w S' m' h' w ∧ RV m' S' w v' x := by
  unfold shape1 at e
  split at e
  · exact shapeV_run e hi hx
  · obtain ⟨m', h1, h2⟩ := ownA_run e hi hx
    exact ⟨S, m', h1, h2⟩
theorem retagV_run {slot k : Nat} {v v' : V} {h' : Heap} (e : retagV slot k v h = some (v', h')) (hi : Inv C S m h w) {x : Value} (hx : RV m S w v x) : ∃ S' m', Ext C S m w S' m' h' w ∧ RV m' S' w v' x := by
  unfold retagV at e
  split at e
  · injection e with e
    injection e with e1 e2
    subst e1; subst e2
    exact ⟨S, m, Ext.refl hi, hx⟩
  · rename_i k
    split at e
    · rename_i s i o
      split at e
      · rename_i b hb
        simp only [Bool.cond_eq_ite] at e
        split at e
        · rename_i hg
          simp only [Bool.and_eq_true] at hg
          obtain ⟨⟨hl, hw⟩, hbox⟩ := hg
          split at e
          · rename_i c hc
            split at e
            · rename_i c' h1 e1
              split at e
              · rename_i b' hb'
                split at e
                · rename_i hg'
                  simp only [Bool.and_eq_true] at hg'
                  obtain ⟨⟨⟨⟨hl', hw'⟩, hbox'⟩, hlen⟩, hleaf⟩ := hg'
                  injection e with e
                  injection e with e3 e4
                  subst e3; subst e4
                  cases hx with
                  | ptr _ _ _ r hm hk hlt =>
                    obtain ⟨r0, hm0, hb0⟩ := hi.bks s b hb hl
                    rw [hm] at hm0; injection hm0 with hm0; subst hm0
                    obtain ⟨arr, ty, fr, g1, g2, g3, g4, g5, g6, g7, g8, g9, g10⟩ := hb0.cells hk
                    obtain rfl := g2 hw
                    have hc0 := g10 0 c (by rw [hc]; rfl)
                    -- the cells in memory
                    obtain ⟨xs, hxs, hget⟩ : ∃ xs : List Value, RVs m S w c xs ∧ ∀ (j : Nat) u, xs[j]? = some u → arr[r.base + 0 * r.sz + j]? = some u := by
                      refine ⟨(arr.toList.drop (r.base + 0 * r.sz)).take c.length, ⟨?_, fun j v y hv hy => ?_⟩, fun j u hu => ?_⟩
                      · have : r.len = 1 := by rw [← g7, hc]; rfl
                        rw [this] at g4
                        have := hc0.1
                        simp; omega
                      · obtain ⟨u, hu, hv'⟩ := hc0.2 j v hv
                        have hj := lt_of_get hv
                        rw [List.getElem?_take, if_pos hj, List.getElem?_drop] at hy
                        have hu' : arr.toList[r.base + 0 * r.sz + j]? = some u := by simpa using hu
                        rw [hu'] at hy
                        injection hy with hy
                        subst hy
                        exact hv'
                      · rw [List.getElem?_take] at hu
                        split at hu
                        · rw [List.getElem?_drop] at hu; simpa using hu
                        · cases hu
                    obtain ⟨S1, m1, hx1, hv1⟩ := shape1_run e1 hi (RV.agg' hxs)
                    obtain ⟨xs', hxe, hxs'⟩ := hv1.agg_inv
                    injection hxe with hxe
                    injection hxe with hxe
                    subst hxe
                    have hm1 := hx1.mono s r hm
                    obtain ⟨hi2, hr2⟩ := hx1.inv.write (w' := w) hb' hl' hw' hm1 hk (elems := [c']) (arr := arr) (ty := ty) (hx1.inv.tyOk hb' hl' hm1 hk g1) g1 (fun _ _ => rfl) rfl rfl rfl rfl
                      (by rw [← g7, hc]; rfl) g3 (fun hbx => by rw [hbox'] at hbx; cases hbx)
                      (fun i c2 j v hc2 hv => by
                        match i, hc2 with
                        | 0, hc2 => simp at hc2; subst hc2; exact List.all_eq_true.1 hleaf v (List.mem_of_getElem? hv))
                      (fun i c2 hc2 => by
                        match i, hc2 with
                        | 0, hc2 =>
                          simp at hc2; subst hc2
                          refine ⟨by rw [beq_nat hlen]; exact hc0.1, fun j v hv => ?_⟩
                          obtain ⟨u, hu, hv'⟩ := hxs'.get hv
                          exact ⟨u, hget j u hu, hv'⟩)
                    refine ⟨S1, m1, ⟨hi2, hx1.mono, hx1.sub, fun v x hv => hr2 _ _ (hx1.rv v x hv)⟩, ?_⟩
                    exact .ptr s i o r hm1 hk hlt
                · cases e
              · cases e
            · cases e
          · cases e
        · injection e with e
          injection e with e3 e4
          subst e3; subst e4
          exact ⟨S, m, Ext.refl hi, hx⟩
      · cases e
    · exact shape1_run e hi hx
theorem pickT_run {ts : Tmps} {a : Act} : ∀ {ks : List Nat} {S : Nat → Prop} {m : Gh} {h : Heap} {r : Tmps} {h' : Heap}, pickT ts h ks = some (r, h') → Inv C S m h w → (∀ t v, tget ts t = some v → t < a.tmps.size ∧ RV m S w v (a.tmps.getD t undef)) →
    ∃ S' m', Ext C S m w S' m' h' w ∧ ∀ t v, tget r t = some v → t < a.tmps.size ∧ RV m' S' w v (a.tmps.getD t undef)
  | [], S, m, h, r, h', e, hi, ht => by
    simp only [pickT, Option.some.injEq, Prod.mk.injEq] at e
    obtain ⟨rfl, rfl⟩ := e
    exact ⟨S, m, Ext.refl hi, fun t v hv => by simp [tget] at hv⟩
  | k :: ks, S, m, h, r, h', e, hi, ht => by
    simp only [pickT] at e
    split at e
    · rename_i v hv
      split at e
      · rename_i v1 h1 e1
        split at e
        · rename_i r1 h2 e2
          injection e with e
          injection e with e3 e4
          subst e3; subst e4
          obtain ⟨S1, m1, hx1, hv1⟩ := retagV_run e1 hi (ht _ v hv).2
          obtain ⟨S2, m2, hx2, hr2⟩ := pickT_run e2 hx1.inv fun t u hu => ⟨(ht t u hu).1, hx1.rv _ _ (ht t u hu).2⟩
          refine ⟨S2, m2, hx1.trans hx2, fun t u hu => ?_⟩
          rw [tget_cons] at hu
          split at hu
          · rename_i he
            subst he
            injection hu with hu; subst hu
            exact ⟨(ht _ v hv).1, hx2.rv _ _ hv1⟩
          · exact hr2 t u hu
        · cases e
      · cases e
    · exact pickT_run e hi ht
end
end Go.Proofs.YthhpdnlfhofanaaGreatDoor
namespace Go.Proofs.YthhpdnlfhofanaaGreatDoor
open Go.RowKit
set_option linter.unusedVariables false
set_option linter.unusedSimpArgs false
section
variable {gl : Gl} {P : Program} {C : Ctx} {m m' : Gh} {S : Nat → Prop} {h : Heap} {w : World}
theorem reach_run : ∀ (n : Nat) (todo seen ids rr : List Nat), reach n todo seen h = some (ids, rr) → (∃ t, ids = seen ++ t) ∧ (seen.Nodup → ids.Nodup)
  | n, [], seen, ids, rr, e => by
    have e' : (Pure.pure seen : M (List Nat)) h = some (ids, rr) := by cases n <;> exact e
    obtain ⟨rfl, _⟩ := M.inv_pure e'
    exact ⟨⟨[], by simp⟩, fun h => h⟩
  | 0, i :: todo, seen, ids, rr, e => by simp only [reach] at e; cases e
  | n + 1, i :: todo, seen, ids, rr, e => by
    simp only [reach, Bool.cond_eq_ite] at e
    split at e
    · exact reach_run n todo seen ids rr e
    · rename_i hs
      obtain ⟨o, r1, r2, e1, e2, _⟩ := M.inv_bind e
      cases o with
      | none => cases e2
      | some b =>
        obtain ⟨⟨t, ht⟩, hn⟩ := reach_run n _ _ ids r2 e2
        refine ⟨⟨i :: t, by simp [ht]⟩, fun hnd => hn ?_⟩
        rw [List.nodup_append]
        refine ⟨hnd, by simp, fun a ha b hb => ?_⟩
        simp at hb
        subst hb
        rintro rfl
        exact hs (has_iff.2 ha)
theorem rdAll_run : ∀ (ids : List Nat) (bs : List Bk) (rr : List Nat), rdAll ids h = some (bs, rr) → bs.length = ids.length ∧ ∀ (k : Nat) i, ids[k]? = some i → ∃ b, bs[k]? = some b ∧ hget h i = some b
  | [], bs, rr, e => by
    simp only [rdAll] at e
    obtain ⟨rfl, _⟩ := M.inv_pure e
    simp
  | i :: ids, bs, rr, e => by
    simp only [rdAll] at e
    obtain ⟨o, r1, r2, e1, e2, _⟩ := M.inv_bind e
    obtain ⟨rfl, _⟩ := M.inv_rd e1
    generalize hq : hget h i = o at e2
    cases o with
    | none => cases e2
    | some b =>
      obtain ⟨bs', r3, r4, e3, e4, _⟩ := M.inv_bind e2
      obtain ⟨rfl, _⟩ := M.inv_pure e4
      obtain ⟨h1, h2⟩ := rdAll_run ids bs' r3 e3
      refine ⟨by simp [h1], fun k j hk => ?_⟩
      match k with
      | 0 => simp at hk; subst hk; exact ⟨b, rfl, hq⟩
      | k + 1 => exact h2 k j (by simpa using hk)
theorem renN_enum : ∀ (ids : List Nat) (n i k : Nat), renN (enum n ids) i = some k → n ≤ k ∧ ids[k - n]? = some i
  | [], n, i, k, e => by simp [enum, renN] at e
  | j :: ids, n, i, k, e => by
    simp only [enum, renN, Bool.cond_eq_ite] at e
    split at e
    · rename_i hb
      injection e with e; subst e
      rw [beq_nat hb]; simp
    · obtain ⟨h1, h2⟩ := renN_enum ids (n + 1) i k e
      refine ⟨by omega, ?_⟩
      rw [show k - n = (k - (n + 1)) + 1 by omega]
      simpa using h2
theorem renN_back : ∀ (ids : List Nat) (n i k : Nat), renN (backOf n ids) k = some i → n ≤ k ∧ ids[k - n]? = some i
  | [], n, i, k, e => by simp [backOf, renN] at e
  | j :: ids, n, i, k, e => by
    simp only [backOf, renN, Bool.cond_eq_ite] at e
    split at e
    · rename_i hb
      injection e with e; subst e
      rw [beq_nat hb]; simp
    · obtain ⟨h1, h2⟩ := renN_back ids (n + 1) i k e
      refine ⟨by omega, ?_⟩
      rw [show k - n = (k - (n + 1)) + 1 by omega]
      simpa using h2
theorem hget_enum : ∀ (bs : List Bk) (n i : Nat), hget (enumB n bs) i = if n ≤ i then bs[i - n]? else none
  | [], n, i => by simp [enumB, hget]
  | b :: bs, n, i => by
    simp only [enumB, hget_cons, hget_enum bs (n + 1) i]
    by_cases h : n = i
    · subst h; simp
    · rw [if_neg h]
      by_cases h2 : n ≤ i
      · rw [if_pos h2, if_pos (by omega), show i - n = (i - (n + 1)) + 1 by omega]
        simp
      · rw [if_neg h2, if_neg (by omega)]
theorem hget_enum0 (bs : List Bk) (i : Nat) : hget (enumB 0 bs) i = bs[i]? := by rw [hget_enum]; simp
/-- Where the blocks lie that are named by their places in a list. -/
def ghOf (ids : List Nat) (m : Gh) : Gh := fun k => match ids[k]? with
  | some i => m i
  | none => none
theorem ghOf_ren {ids : List Nat} : RenOk (renOf ids) m (ghOf ids m) := by
  intro i k e r hr
  obtain ⟨_, h2⟩ := renN_enum ids 0 i k e
  simp only [Nat.sub_zero] at h2
  unfold ghOf; rw [h2]; exact hr
theorem nodup_get {l : List Nat} (hn : l.Nodup) {i j a : Nat} (hi : l[i]? = some a) (hj : l[j]? = some a) : i = j := by
  have h1 := lt_of_get hi
  have h2 := lt_of_get hj
  rw [List.getElem?_eq_getElem h1] at hi
  rw [List.getElem?_eq_getElem h2] at hj
  exact (List.getElem_inj hn).1 ((Option.some.inj hi).trans (Option.some.inj hj).symm)
/-- The blocks of a list, named by their places. -/
theorem export_inv (hi : Inv C S m h w) {ids : List Nat} {bs bs' : List Bk} (hn : ids.Nodup) (hb : bs.length = ids.length ∧ ∀ (k : Nat) i, ids[k]? = some i → ∃ b, bs[k]? = some b ∧ hget h i = some b) (hr : renBs (renOf ids) bs = some bs') :
    Inv C S (ghOf ids m) (enumB 0 bs') w := by
  obtain ⟨hlen, hget'⟩ := renBs_get hr
  have back : ∀ (k : Nat) b', bs'[k]? = some b' → ∃ i b, ids[k]? = some i ∧ hget h i = some b ∧ renB (renOf ids) b = some b' := by
    intro k b' hk
    obtain ⟨b, hb1, hb2⟩ := hget' k b' hk
    have hlt := lt_of_get hb1
    obtain ⟨b2, h1, h2⟩ := hb.2 k _ (List.getElem?_eq_getElem (by omega))
    rw [hb1] at h1; injection h1 with h1; subst h1
    exact ⟨_, b, List.getElem?_eq_getElem (by omega), h2, hb2⟩
  refine ⟨hi.os, hi.tape, hi.output, hi.size, hi.frame, fun k r hk => ?_, fun k b' hk hl => ?_, fun k k' b' b'' r r' hne hk hk' hl hl' hm hm' hr1 hr2 => ?_, fun k b' r hk hl hm hnil => ?_, hi.st, hi.stNew, hi.stOld⟩
  · rw [hget_enum0]
    unfold ghOf at hk
    cases hq : ids[k]? with
    | none => rw [hq] at hk; cases hk
    | some i => exact ⟨_, List.getElem?_eq_getElem (by have := lt_of_get hq; omega)⟩
  · rw [hget_enum0] at hk
    obtain ⟨i, b, hi1, hi2, hi3⟩ := back k b' hk
    have hf := renB_flags hi3
    obtain ⟨r, hr1, hr2⟩ := hi.bks i b hi2 (by rw [← hf.1]; exact hl)
    exact ⟨r, by unfold ghOf; rw [hi1]; exact hr1, renB_run ghOf_ren hi3 (by rw [← hf.1]; exact hl) hr2⟩
  · rw [hget_enum0] at hk hk'
    obtain ⟨i, b, hi1, hi2, hi3⟩ := back k b' hk
    obtain ⟨i', b2, hi1', hi2', hi3'⟩ := back k' b'' hk'
    have hf := renB_flags hi3
    have hf' := renB_flags hi3'
    unfold ghOf at hm hm'
    rw [hi1] at hm
    rw [hi1'] at hm'
    exact hi.inj i i' b b2 r r' (fun e => hne (nodup_get hn hi1 (e ▸ hi1'))) hi2 hi2' (by rw [← hf.1]; exact hl) (by rw [← hf'.1]; exact hl') hm hm' hr1 hr2
  · rw [hget_enum0] at hk
    obtain ⟨i, b, hi1, hi2, hi3⟩ := back k b' hk
    have hf := renB_flags hi3
    unfold ghOf at hm
    rw [hi1] at hm
    have := hi.own i b r hi2 (by rw [← hf.1]; exact hl) hm hnil
    exact ⟨this.1, fun hw => this.2.1 (by rw [← hf.2.1]; exact hw), fun hw => this.2.2 (by rw [← hf.2.1]; exact hw)⟩
theorem range'_get : ∀ (n a k : Nat), (range' a n)[k]? = if k < n then some (a + k) else none
  | 0, a, k => by simp [range']
  | n + 1, a, k => by
    match k with
    | 0 => simp [range']
    | k + 1 =>
      simp only [range', List.getElem?_cons_succ, range'_get n (a + 1) k]
      by_cases h : k < n
      · rw [if_pos h, if_pos (by omega)]; congr 1; omega
      · rw [if_neg h, if_neg (by omega)]
theorem range'_mem {n a x : Nat} (hx : x ∈ range' a n) : a ≤ x ∧ x < a + n := by
  obtain ⟨k, hk⟩ := List.mem_iff_getElem?.1 hx
  rw [range'_get] at hk
  split at hk
  · injection hk with hk; omega
  · cases hk
theorem range'_nodup : ∀ (n a : Nat), (range' a n).Nodup
  | 0, a => by simp [range']
  | n + 1, a => by
    simp only [range', List.nodup_cons]
    exact ⟨fun hm => by have := range'_mem hm; omega, range'_nodup n (a + 1)⟩
theorem export_run {p : Nat} {roots ids : List Nat} {bs : List Bk} (e : export_ p roots h = some (ids, bs)) :
    ids.Nodup ∧ (∀ i, i < p → ids[i]? = some i) ∧ bs.length = ids.length ∧ ∀ (k : Nat) i, ids[k]? = some i → ∃ b, bs[k]? = some b ∧ hget h i = some b := by
  unfold export_ at e
  split at e
  · cases e
  · rename_i ps r1 e1
    split at e
    · cases e
    · rename_i ids' r2 e2
      split at e
      · cases e
      · rename_i bs' r3 e3
        injection e with e
        injection e with h1 h2
        subst h1; subst h2
        obtain ⟨⟨t, ht⟩, hn⟩ := reach_run _ _ _ _ _ e2
        refine ⟨hn (range'_nodup p 0), fun i hi => ?_, rdAll_run _ _ _ e3⟩
        rw [ht, List.getElem?_append_left (by
          have : (range' 0 p)[p - 1]? = some (0 + (p - 1)) := by rw [range'_get, if_pos (by omega)]
          have := lt_of_get this; omega), range'_get, if_pos hi, Nat.zero_add]
theorem renTmps_get {ρ : List (Nat × Nat)} : ∀ {ts ts' : Tmps} {t : Nat} {v' : V}, renTmps ρ ts = some ts' → tget ts' t = some v' → ∃ v, tget ts t = some v ∧ renT ρ v = some v'
  | [], ts', t, v', e, hv => by simp only [renTmps, Option.some.injEq] at e; subst e; simp [tget] at hv
  | (i, u) :: ts, ts', t, v', e, hv => by
    simp only [renTmps] at e
    split at e
    · rename_i a b ha hb
      injection e with e; subst e
      rw [tget_cons] at hv ⊢
      split at hv
      · rename_i he
        injection hv with hv; subst hv
        exact ⟨u, by rw [if_pos he], ha⟩
      · rename_i he
        obtain ⟨v, h1, h2⟩ := renTmps_get hb hv
        exact ⟨v, by rw [if_neg he]; exact h1, h2⟩
    · cases e
theorem norm_sim {p n : Nat} {m0 : Gh} {keep : Option (List Nat)} {st st' : St} {a : Act} (e : normSt p keep st = some st') (hs : Sim gl C p m0 n st a w) : Sim gl C p m0 n st' a w := by
  obtain ⟨⟨S0, mm, hi0, ht0, hp0⟩, hsz, hdf, hex⟩ := hs
  unfold normSt at e
  simp only at e
  split at e
  · cases e
  · rename_i ts1 h1 e0
    obtain ⟨S, m, hx0, hr0⟩ := pickT_run e0 hi0 ht0.get
    have hi := hx0.inv
    have hp : ∀ i, i < p → ∀ r, m0 i = some r → m i = some r := fun i hi' r hr => hx0.mono _ _ (hp0 i hi' r hr)
    split at e
    · cases e
    · rename_i ids bs e1
      split at e
      · rename_i ts' bs' h1 h2
        injection e with e; subst e
        obtain ⟨hn, hpi, hb⟩ := export_run e1
        refine ⟨⟨S, ghOf ids m, export_inv hi hn hb h2, ⟨fun t v' hv => ?_, (ht0.glob.mono hx0.rv).any⟩, fun i hi' r hr => ?_⟩, hsz, hdf, hex⟩
        · obtain ⟨v, hv1, hv2⟩ := renTmps_get h1 hv
          have := hr0 t v hv1
          exact ⟨this.1, renT_run ghOf_ren hv2 this.2⟩
        · unfold ghOf; rw [hpi i hi']; exact hp i hi' r hr
      · cases e
def exOf : Ex → Exit
  | .normal => .normal
  | .exit i => .exit i
  | .ret => .ret
/-- A region whose order is open. -/
def DrawOk (P : Program) (cfg : Cfg) (call : CallF) : Prop :=
  ∀ {C : Ctx} {p n : Nat} {m0 : Gh} {id : Nat} {ops : Array Oper} {st st' : St} {fs : List Foot}, evOps P cfg call id ops.toList 0 ops.toList st = some (st', fs) → drawOk ops.toList fs = true → (∀ o ∈ ops.toList, dstOk n o = true) →
    ∀ {Q : Exit → Act → World → Prop} {a : Act} {w : World}, Sim cfg.glob C p m0 n st a w → (∀ a' w', Sim cfg.glob C p m0 n st' a' w' → Q .normal a' w') → (Code.region id ops true).wp P Q a w
theorem loopN_rounds {C : Ctx} {p n : Nat} {m0 : Gh} {keep : Option (List Nat)} {body : St → Option (Ex × St)} {c : Code} {Q : Exit → Act → World → Prop} {ex : Ex} {st' : St} (hQ : ∀ a' w', Sim gl C p m0 n st' a' w' → Q (exOf ex) a' w')
    (hb : ∀ {st1 st2 : St} {e : Ex}, body st1 = some (e, st2) → ∀ {a : Act} {w : World} {Q' : Exit → Act → World → Prop}, Sim gl C p m0 n st1 a w → (∀ a' w', Sim gl C p m0 n st2 a' w' → Q' (exOf e) a' w') → c.wp P Q' a w) :
    ∀ (k : Nat) {st : St} {a : Act} {w : World}, loopN (normSt p keep) body k st = some (ex, st') → Sim gl C p m0 n st a w → Code.rounds P c Q k a w
  | 0, st, a, w, e, hs => by simp [loopN] at e
  | k + 1, st, a, w, e, hs => by
    simp only [loopN] at e
    cases h1 : normSt p keep st with
    | none => rw [h1] at e; cases e
    | some st1 =>
      rw [h1] at e
      simp only at e
      have hs1 := norm_sim h1 hs
      rw [rounds_succ]
      cases h2 : body st1 with
      | none => rw [h2] at e; cases e
      | some r =>
        obtain ⟨ex1, st2⟩ := r
        rw [h2] at e
        refine hb h2 hs1 fun a' w' hs2 => ?_
        cases ex1 with
        | normal => exact loopN_rounds hQ hb k e hs2
        | exit i =>
          simp only [Option.some.injEq, Prod.mk.injEq] at e
          obtain ⟨rfl, rfl⟩ := e
          exact hQ a' w' hs2
        | ret =>
          simp only [Option.some.injEq, Prod.mk.injEq] at e
          obtain ⟨rfl, rfl⟩ := e
          exact hQ a' w' hs2
theorem evCode_wp {cfg : Cfg} {call : CallF} (hcall : CallOk P cfg call) (hnames : NamesOk P) (hdraw : DrawOk P cfg call) {C : Ctx} {p n : Nat} {m0 : Gh} {keep : Nat → Option (List Nat)} :
    ∀ (c : Code) {st st' : St} {ex : Ex}, evCode P cfg call p keep c st = some (ex, st') → codeOk n c = true → ∀ {Q : Exit → Act → World → Prop} {a : Act} {w : World}, Sim cfg.glob C p m0 n st a w → (∀ a' w', Sim cfg.glob C p m0 n st' a' w' → Q (exOf ex) a' w') → c.wp P Q a w
  | .skip, st, st', ex, e, hc, Q, a, w, hs, hQ => by
    simp only [evCode, Option.some.injEq, Prod.mk.injEq] at e
    obtain ⟨rfl, rfl⟩ := e
    exact wp_skip (hQ a w hs)
  | .label l, st, st', ex, e, hc, Q, a, w, hs, hQ => by
    simp only [evCode, Option.some.injEq, Prod.mk.injEq] at e
    obtain ⟨rfl, rfl⟩ := e
    exact wp_label (hQ a w hs)
  | .region id ops draw, st, st', ex, e, hc, Q, a, w, hs, hQ => by
    simp only [evCode] at e
    cases h1 : evOps P cfg call id ops.toList 0 ops.toList st with
    | none => rw [h1] at e; cases e
    | some r =>
      obtain ⟨st1, fs⟩ := r
      rw [h1] at e
      simp only [Bool.cond_eq_ite] at e
      split at e
      · rename_i hg
        simp only [Option.some.injEq, Prod.mk.injEq] at e
        obtain ⟨rfl, rfl⟩ := e
        have hd : ∀ o ∈ ops.toList, dstOk n o = true := List.all_eq_true.1 hc
        cases draw with
        | false =>
          refine wp_region ?_
          have := evOps_wp hcall hnames h1 (fun k => by simp) hd hs (Q := Q) hQ
          rw [List.range_eq_range']
          simpa using this
        | true => exact hdraw h1 (by simpa using hg) hd hs hQ
      · cases e
  | .seq x y, st, st', ex, e, hc, Q, a, w, hs, hQ => by
    simp only [codeOk, Bool.and_eq_true] at hc
    simp only [evCode] at e
    refine wp_seq ?_
    cases h1 : evCode P cfg call p keep x st with
    | none => rw [h1] at e; cases e
    | some r =>
      obtain ⟨ex1, st1⟩ := r
      rw [h1] at e
      refine evCode_wp hcall hnames hdraw x h1 hc.1 hs fun a' w' hs1 => ?_
      cases ex1 with
      | normal => exact evCode_wp hcall hnames hdraw y e hc.2 hs1 hQ
      | exit i =>
        simp only [Option.some.injEq, Prod.mk.injEq] at e
        obtain ⟨rfl, rfl⟩ := e
        exact hQ a' w' hs1
      | ret =>
        simp only [Option.some.injEq, Prod.mk.injEq] at e
        obtain ⟨rfl, rfl⟩ := e
        exact hQ a' w' hs1
  | .cond c x y, st, st', ex, e, hc, Q, a, w, hs, hQ => by
    simp only [codeOk, Bool.and_eq_true] at hc
    simp only [evCode] at e
    split at e
    · rename_i t ht
      obtain ⟨⟨S, m, hi, htr, hp⟩, _, _⟩ := id hs
      have hv := htr.eval ht
      generalize hX : a.eval c = X at hv
      cases hv
      simp only [Bool.cond_eq_ite] at e
      refine wp_cond hX ?_
      split at e
      · rename_i hb; subst hb; exact evCode_wp hcall hnames hdraw x e hc.1 hs hQ
      · rename_i hb
        have hb : t = false := by simpa using hb
        subst hb; exact evCode_wp hcall hnames hdraw y e hc.2 hs hQ
    · cases e
  | .block id b, st, st', ex, e, hc, Q, a, w, hs, hQ => by
    simp only [codeOk] at hc
    simp only [evCode] at e
    refine wp_block ?_
    cases h1 : evCode P cfg call p keep b st with
    | none => rw [h1] at e; cases e
    | some r =>
      obtain ⟨ex1, st1⟩ := r
      rw [h1] at e
      refine evCode_wp hcall hnames hdraw b h1 hc hs fun a' w' hs1 => ?_
      cases ex1 with
      | normal =>
        simp only [Option.some.injEq, Prod.mk.injEq] at e
        obtain ⟨rfl, rfl⟩ := e
        exact hQ a' w' hs1
      | exit i =>
        simp only [Bool.cond_eq_ite] at e
        simp only [exOf, Exit.inBlock]
        split at e
        · rename_i hb
          have := beq_nat hb
          subst this
          simp only [Option.some.injEq, Prod.mk.injEq] at e
          obtain ⟨rfl, rfl⟩ := e
          simp only [if_true]
          exact hQ a' w' hs1
        · rename_i hb
          simp only [Option.some.injEq, Prod.mk.injEq] at e
          obtain ⟨rfl, rfl⟩ := e
          rw [if_neg (fun h => hb (by rw [h]; exact Nat.beq_refl _))]
          exact hQ a' w' hs1
      | ret =>
        simp only [Option.some.injEq, Prod.mk.injEq] at e
        obtain ⟨rfl, rfl⟩ := e
        exact hQ a' w' hs1
  | .loop b, st, st', ex, e, hc, Q, a, w, hs, hQ => by
    simp only [codeOk] at hc
    simp only [evCode] at e
    exact wp_loop_rounds loopFuel (loopN_rounds hQ (fun {st1 st2 ex1} h1 {a w Q'} hs1 hQ1 => evCode_wp hcall hnames hdraw b h1 hc hs1 hQ1) loopFuel e hs)
  | .exit id, st, st', ex, e, hc, Q, a, w, hs, hQ => by
    simp only [evCode, Option.some.injEq, Prod.mk.injEq] at e
    obtain ⟨rfl, rfl⟩ := e
    exact wp_exit (hQ a w hs)
  | .ret, st, st', ex, e, hc, Q, a, w, hs, hQ => by
    simp only [evCode, Option.some.injEq, Prod.mk.injEq] at e
    obtain ⟨rfl, rfl⟩ := e
    exact wp_ret (hQ a w hs)
  | .rangeFunc .., st, st', ex, e, hc, Q, a, w, hs, hQ => by simp [evCode] at e
  | .scope b, st, st', ex, e, hc, Q, a, w, hs, hQ => by simp [evCode] at e
  | .goto l, st, st', ex, e, hc, Q, a, w, hs, hQ => by simp [evCode] at e
  | .refuse y, st, st', ex, e, hc, Q, a, w, hs, hQ => by simp [evCode] at e
end
end Go.Proofs.YthhpdnlfhofanaaGreatDoor
namespace Go.Proofs.YthhpdnlfhofanaaGreatDoor
open Go.RowKit
set_option linter.unusedVariables false
set_option linter.unusedSimpArgs false
/-- Deferred, the function does nothing at a return. -/
def DeferOk (P : Program) (g : FuncId) (n : Nat) : Prop := ∀ (xs : Array Value) (w : World), xs.size = n → (callFunc g xs).run P w = .ok (.enter g xs) w ∧
  CallsD P g xs .returning w fun e u w' => (∃ v, e = .returned v) ∧ u = .returning ∧ w' = w
/-- The same, with other deferred calls. -/
def Ctx.wd (C : Ctx) (l : List Deferred) : Ctx := ⟨C.w0, C.S0, C.Pm, C.Pa, l⟩
section
variable {gl : Gl} {P : Program} {C : Ctx} {m m0 : Gh} {S : Nat → Prop} {h : Heap} {w : World} {p n : Nat}
theorem Inv.wd (hi : Inv C S m h w) (l : List Deferred) : Inv (C.wd l) S m h w := ⟨hi.os, hi.tape, hi.output, hi.size, hi.frame, hi.dom, hi.bks, hi.inj, hi.own, hi.st, hi.stNew, hi.stOld⟩
theorem Inv.wd_back {l : List Deferred} (hi : Inv (C.wd l) S m h w) : Inv C S m h w := ⟨hi.os, hi.tape, hi.output, hi.size, hi.frame, hi.dom, hi.bks, hi.inj, hi.own, hi.st, hi.stNew, hi.stOld⟩
theorem ExC.wd (hex : ExC gl C) (l : List Deferred) : ExC gl (C.wd l) := hex
theorem Sim.wd {st : St} {a a' : Act} (hs : Sim gl C p m0 n st a w) {l : List Deferred} (ht : a'.tmps = a.tmps) (hd : a'.defers = l) : Sim gl (C.wd l) p m0 n st a' w := by
  obtain ⟨⟨S, m, hi, htr, hp⟩, hsz, hdf, hex⟩ := hs
  exact ⟨⟨S, m, hi.wd l, ⟨fun t v hv => by rw [ht]; exact htr.get t v hv, htr.glob⟩, hp⟩, by rw [ht]; exact hsz, hd, hex⟩
theorem evOps_wpT {cfg : Cfg} {call : CallF} (hcall : CallOk P cfg call) (hnames : NamesOk P) {id : Nat} {ops : Array Oper} {Q : Exit → Act → World → Prop} {tail : List Nat} : ∀ {rest : List Oper} {i : Nat} {st st' : St} {fs : List Foot}, evOps P cfg call id ops.toList i rest st = some (st', fs) →
    (∀ k, k < rest.length → rest[k]? = ops[i + k]?) → (∀ o ∈ rest, dstOk n o = true) → ∀ {a : Act} {w : World}, Sim cfg.glob C p m0 n st a w → (∀ a' w', Sim cfg.glob C p m0 n st' a' w' → wpOps P ops Q tail a' w') → wpOps P ops Q (List.range' i rest.length ++ tail) a w
  | [], i, st, st', fs, e, hr, hd, a, w, hs, hQ => by
    simp only [evOps, Option.some.injEq, Prod.mk.injEq] at e
    obtain ⟨rfl, _⟩ := e
    exact hQ a w hs
  | o :: rest, i, st, st', fs, e, hr, hd, a, w, hs, hQ => by
    simp only [evOps] at e
    cases he : evIx P cfg call id ops.toList i o st with
    | none => rw [he] at e; cases e
    | some q =>
      obtain ⟨st1, f1⟩ := q
      rw [he] at e
      simp only at e
      cases he2 : evOps P cfg call id ops.toList (i + 1) rest st1 with
      | none => rw [he2] at e; cases e
      | some q2 =>
        obtain ⟨st2, f2⟩ := q2
        rw [he2] at e
        simp only [Option.some.injEq, Prod.mk.injEq] at e
        obtain ⟨rfl, _⟩ := e
        have ho : ops[i]? = some o := by have := hr 0 (by simp); simpa using this.symm
        rw [List.length_cons, List.range'_succ, List.cons_append, wpOps_cons]
        refine evIx_wp hcall hnames he ho (hd o (List.mem_cons_self ..)) hs fun a' w' hs' => ?_
        exact evOps_wpT hcall hnames he2 (fun k hk => by have := hr (k + 1) (by simpa using hk); rw [show i + 1 + k = i + (k + 1) by omega]; simpa using this) (fun o ho => hd o (List.mem_cons_of_mem _ ho)) hs' hQ
/-- The state, one call deferred or none. -/
def SimD (cfg : Cfg) (C : Ctx) (p : Nat) (m0 : Gh) (n : Nat) (st : St) (a : Act) (w : World) : Option FuncId → Prop
  | none => Sim cfg.glob C p m0 n st a w
  | some g => ∃ cap dargs : Array Value, (dargs ++ cap).size + 1 = cfg.dfr g ∧ Sim cfg.glob (C.wd [⟨.fn (.func g) cap, dargs⟩]) p m0 n st a w
theorem deferG_wp {cfg : Cfg} {ops : Array Oper} {o : Oper} {st : St} {g : FuncId} (e : deferG cfg st.tmps o = some g) {i : Nat} (ho : ops[i]? = some o) {a : Act} (hs : Sim cfg.glob C p m0 n st a w) (hds : C.ds = [])
    {Q : Exit → Act → World → Prop} {K : Act → World → Prop} (hK : ∀ a' w', SimD cfg C p m0 n st a' w' (some g) → K a' w') : wpOp P ops Q i K a w := by
  obtain ⟨od, oop, oty, opos, oaf, og⟩ := o
  unfold deferG at e
  simp only at e
  split at e
  · rename_i f args at_
    split at e
    · rename_i g' fa ca hf
      simp only [Bool.cond_eq_ite] at e
      split at e
      · rename_i hc
        injection e with e
        subst e
        simp only [Bool.and_eq_true] at hc
        obtain ⟨hdf, hae⟩ := hc
        have hargs : args = #[] := by
          have := isEmpty_nil hae
          simpa using this
        obtain ⟨⟨S, m, hi, htr, hp⟩, hsz, hde, hex⟩ := id hs
        have hv := htr.eval hf
        generalize hX : a.eval f = X at hv
        cases hv with
        | func _ _ _ xs ys h1 h2 h3 h4 =>
          unfold wpOp
          rw [ho]
          simp only
          rw [if_pos (by rfl)]
          refine .inl ?_
          unfold Oper.wp
          subst hargs
          simp only [execOp, resolve, Sem.run_bind, Sem.run_pure, Result.andThen_ok, hX, Deferred.ofValue, Oper.upon, Act.put]
          refine hK _ _ ⟨_, _, ?_, hs.wd rfl (by rw [hde, hds])⟩
          have hn := beq_nat hdf
          rw [← hn]
          simp [h1, h2]
      · cases e
    · cases e
  · cases e
theorem evCodeD_wp {cfg : Cfg} {call : CallF} (hcall : CallOk P cfg call) (hnames : NamesOk P) (hdraw : DrawOk P cfg call) {keep : Nat → Option (List Nat)} (hds : C.ds = []) :
    ∀ (c : Code) {st st' : St} {ex : Ex} {og : Option FuncId}, evCodeD P cfg call p keep c st = some (ex, st', og) → codeOk n c = true → ∀ {Q : Exit → Act → World → Prop} {a : Act} {w : World}, Sim cfg.glob C p m0 n st a w → (∀ a' w', SimD cfg C p m0 n st' a' w' og → Q (exOf ex) a' w') → c.wp P Q a w := by
  intro c
  have plain : ∀ {c : Code} {st st' : St} {ex : Ex} {og : Option FuncId}, (match evCode P cfg call p keep c st with
      | some (ex, st) => some (ex, st, none)
      | none => none) = some (ex, st', og) → codeOk n c = true → ∀ {Q : Exit → Act → World → Prop} {a : Act} {w : World}, Sim cfg.glob C p m0 n st a w → (∀ a' w', SimD cfg C p m0 n st' a' w' og → Q (exOf ex) a' w') → c.wp P Q a w := by
    intro c st st' ex og e hc Q a w hs hQ
    split at e
    · rename_i ex1 st1 h1
      simp only [Option.some.injEq, Prod.mk.injEq] at e
      obtain ⟨rfl, rfl, rfl⟩ := e
      exact evCode_wp hcall hnames hdraw c h1 hc hs hQ
    · cases e
  induction c with
  | seq x y ihx ihy =>
    intro st st' ex og e hc Q a w hs hQ
    simp only [codeOk, Bool.and_eq_true] at hc
    simp only [evCodeD] at e
    refine wp_seq ?_
    cases h1 : evCodeD P cfg call p keep x st with
    | none => rw [h1] at e; cases e
    | some r =>
      obtain ⟨ex1, st1, og1⟩ := r
      rw [h1] at e
      refine ihx h1 hc.1 hs fun a' w' hs1 => ?_
      cases ex1 with
      | normal =>
        cases og1 with
        | none => exact ihy e hc.2 hs1 hQ
        | some g =>
          simp only at e
          split at e
          · rename_i ex2 st2 h2
            simp only [Option.some.injEq, Prod.mk.injEq] at e
            obtain ⟨rfl, rfl, rfl⟩ := e
            obtain ⟨cap, dargs, hg, hs2⟩ := hs1
            exact evCode_wp hcall hnames hdraw y h2 hc.2 hs2 fun a2 w2 hs3 => hQ a2 w2 ⟨cap, dargs, hg, hs3⟩
          · cases e
      | exit i =>
        simp only [Option.some.injEq, Prod.mk.injEq] at e
        obtain ⟨rfl, rfl, rfl⟩ := e
        exact hQ a' w' hs1
      | ret =>
        simp only [Option.some.injEq, Prod.mk.injEq] at e
        obtain ⟨rfl, rfl, rfl⟩ := e
        exact hQ a' w' hs1
  | region id ops draw =>
    intro st st' ex og e hc Q a w hs hQ
    simp only [evCodeD, Bool.cond_eq_ite] at e
    split at e
    · cases draw with
      | true => cases e
      | false =>
        simp only [Bool.false_eq_true, if_false] at e
        split at e
        · rename_i st1 fs1 o h1 hl
          split at e
          · rename_i g hg
            simp only [Option.some.injEq, Prod.mk.injEq] at e
            obtain ⟨rfl, rfl, rfl⟩ := e
            have hd : ∀ o ∈ ops.toList, dstOk n o = true := List.all_eq_true.1 hc
            have hsplit : ops.toList = ops.toList.dropLast ++ [o] := by
              obtain ⟨ys, hy⟩ := List.getLast?_eq_some_iff.1 hl
              rw [hy, List.dropLast_concat]
            generalize hpre : ops.toList.dropLast = pre at h1 hsplit
            have hsz : ops.size = pre.length + 1 := by
              have := congrArg List.length hsplit
              simpa using this
            refine wp_region ?_
            have hget : ∀ k, ops[k]? = (pre ++ [o])[k]? := fun k => by rw [← hsplit]; exact (Array.getElem?_toList ..).symm
            have hr : List.range ops.size = List.range' 0 pre.length ++ [pre.length] := by
              rw [List.range_eq_range', hsz, List.range'_concat]
              simp
            rw [hr]
            refine evOps_wpT hcall hnames h1 (fun k hk => ?_) (fun o ho => hd o (by rw [hsplit]; exact List.mem_append_left _ ho)) hs fun a' w' hs1 => ?_
            · rw [Nat.zero_add, hget]; exact (List.getElem?_append_left hk).symm
            · rw [wpOps_cons]
              refine deferG_wp hg (by rw [hget]; simp) hs1 hds fun a2 w2 hs2 => ?_
              exact hQ a2 w2 hs2
          · cases e
        · cases e
    · exact plain e hc hs hQ
  | _ => intro st st' ex og e hc Q a w hs hQ; simp only [evCodeD] at e; exact plain e hc hs hQ
end
end Go.Proofs.YthhpdnlfhofanaaGreatDoor
namespace Go.Proofs.YthhpdnlfhofanaaGreatDoor
open Go.RowKit
set_option linter.unusedVariables false
set_option linter.unusedSimpArgs false
section
variable {gl : Gl} {P : Program} {C : Ctx} {m m' : Gh} {S : Nat → Prop} {h : Heap} {w : World}
theorem loadV_addr {t : TypeId} {p v : V} {rr : List Nat} (e : loadV P t p h = some (v, rr)) (hi : Inv C S m h w) {X : Value} (hX : RV m S w p X) :
    ∃ a x, X = .pointer (some a) ∧ (loadVar t a).run P w = .ok x w ∧ RV m S w v x := by
  obtain ⟨x, hr, hv⟩ := loadV_run e hi hX
  have hp : ∃ a, X = .pointer (some a) := by
    unfold loadV at e
    obtain ⟨n, r1, r2, e1, e2, _⟩ := M.inv_bind e
    cases hX <;> first | exact ⟨_, rfl⟩ | (cases e2)
  obtain ⟨a, rfl⟩ := hp
  exact ⟨a, x, rfl, by simpa [Instr.loadAt, Instr.sureAddr] using hr, hv⟩
def resOne (tmps : Array Value) : ResultVar → Sem Value
  | .tmp t => pure (tmps.getD t undef)
  | .cell a t => do loadVar t (← asAddr (tmps.getD a undef))
theorem resultsV_run {ts : Tmps} {a : Act} (ht : TR gl m S w ts a) (hi : Inv C S m h w) : ∀ {rs : List ResultVar} {vs : List V} {rr : List Nat}, resultsV P ts rs h = some (vs, rr) →
    ∃ xs, (rs.mapM (resOne a.tmps)).run P w = .ok xs w ∧ RVs m S w vs xs
  | [], vs, rr, e => by
    simp only [resultsV] at e
    obtain ⟨rfl, _⟩ := M.inv_pure e
    exact ⟨[], rfl, .nil⟩
  | .tmp t :: rs, vs, rr, e => by
    simp only [resultsV] at e
    obtain ⟨v, r1, r2, e1, e2, _⟩ := M.inv_bind e
    obtain ⟨hv, _⟩ := M.inv_lift e1
    obtain ⟨vs', r3, r4, e3, e4, _⟩ := M.inv_bind e2
    obtain ⟨rfl, _⟩ := M.inv_pure e4
    obtain ⟨xs, hr, hxs⟩ := resultsV_run ht hi e3
    refine ⟨a.tmps.getD t undef :: xs, ?_, .cons (ht.get t v hv).2 hxs⟩
    have h1 : (resOne a.tmps (.tmp t)).run P w = .ok (a.tmps.getD t undef) w := rfl
    simp only [List.mapM_cons, Sem.run_bind, h1, Result.andThen_ok, hr, Sem.run_pure]
  | .cell c t :: rs, vs, rr, e => by
    simp only [resultsV] at e
    obtain ⟨p, r1, r2, e1, e2, _⟩ := M.inv_bind e
    obtain ⟨hv, _⟩ := M.inv_lift e1
    obtain ⟨v, r3, r4, e3, e4, _⟩ := M.inv_bind e2
    obtain ⟨vs', r5, r6, e5, e6, _⟩ := M.inv_bind e4
    obtain ⟨rfl, _⟩ := M.inv_pure e6
    obtain ⟨xs, hr, hxs⟩ := resultsV_run ht hi e5
    obtain ⟨ad, x, hX, hl, hvx⟩ := loadV_addr e3 hi (ht.get c p hv).2
    refine ⟨x :: xs, ?_, .cons hvx hxs⟩
    have h1 : (resOne a.tmps (.cell c t)).run P w = .ok x w := by
      simp only [resOne, hX, asAddr, Sem.run_bind, Sem.run_pure, Result.andThen_ok, hl]
    simp only [List.mapM_cons, Sem.run_bind, h1, Result.andThen_ok, hr, Sem.run_pure]
theorem results_run {ts : Tmps} {a : Act} (ht : TR gl m S w ts a) (hi : Inv C S m h w) {fn : Func} {vs : List V} {rr : List Nat} (e : resultsV P ts fn.results.toList h = some (vs, rr)) :
    ∃ x, (results fn a.tmps).run P w = .ok x w ∧ RV m S w (oneV vs) x := by
  obtain ⟨xs, hr, hxs⟩ := resultsV_run ht hi e
  have hm : (fn.results.mapM (resOne a.tmps)).run P w = .ok xs.toArray w := by
    rw [← Array.toArray_toList (xs := fn.results), List.mapM_toArray]
    simp only [Sem.run_map]
    rw [hr]; rfl
  have hres : results fn a.tmps = (fn.results.mapM (resOne a.tmps) >>= fun vs => pure (if h : vs.size = 1 then vs[0] else .tuple vs)) := rfl
  refine ⟨if hs : xs.toArray.size = 1 then xs.toArray[0] else .tuple xs.toArray, ?_, ?_⟩
  · rw [hres, Sem.run_bind, hm]
    rfl
  · by_cases h1 : xs.length = 1
    · match xs, vs, hxs, h1 with
      | [x], vs, hxs, _ =>
        have hl := hxs.1
        match vs, hl, hxs with
        | [v], _, hxs =>
          obtain ⟨y, ys, he, hy, _⟩ := hxs.cons_inv
          injection he with he1 he2
          subst he1
          exact hy
    · rw [dif_neg (by simpa using h1)]
      have : oneV vs = .tup vs := by
        have hl := hxs.1
        match vs, hl with
        | [], _ => rfl
        | [v], hl => exact absurd hl.symm h1
        | _ :: _ :: _, _ => rfl
      rw [this]
      exact RV.tup' hxs
theorem tget_enum : ∀ (vs : List V) (n t : Nat), tget (enumT n vs) t = if n ≤ t then vs[t - n]? else none
  | [], n, i => by simp [enumT, tget]
  | b :: bs, n, i => by
    simp only [enumT, tget_cons, tget_enum bs (n + 1) i]
    by_cases h : n = i
    · subst h; simp
    · rw [if_neg h]
      by_cases h2 : n ≤ i
      · rw [if_pos h2, if_pos (by omega), show i - n = (i - (n + 1)) + 1 by omega]
        simp
      · rw [if_neg h2, if_neg (by omega)]
/-- What is known of a function's calls. -/
def FunOk (P : Program) (gl : Gl) (call : CallF) : Prop :=
  ∀ {f : FuncId} {vs : List V} {bs : List Bk} {r : V} {out : List Bk}, call f vs bs = some (r, out) → ∀ {C : Ctx} {S : Nat → Prop} {m : Gh} {w : World}, Inv C S m (enumB 0 bs) w → ∀ {xs : List Value}, RVs m S w vs xs → GlobR gl m S w → ExC gl C →
    Calls P f xs.toArray w fun e w' => ∃ S' m' x, e = .returned x ∧ Inv C S' m' (enumB 0 out) w' ∧ RV m' S' w' r x ∧ ∀ i, i < bs.length → ∀ q, m i = some q → m' i = some q
def DstsOk (P : Program) : Prop := ∀ (f : Nat) fn c, P.funcs[f]? = some fn → fn.body = some c → codeOk fn.ntmps c = true
theorem evBody_ok0 {cfg : Cfg} {call : CallF} (hcall : CallOk P cfg call) (hnames : NamesOk P) (hdraw : DrawOk P cfg call) (hdef : ∀ g n, n + 1 = cfg.dfr g → DeferOk P g n) (hdsts : DstsOk P) {f : FuncId} {fn : Func} {c : Code} (hf : P.funcs[f]? = some fn) (hb : fn.body = some c)
    {vs : List V} {bs : List Bk} {r : V} {out : List Bk} (e : evBody P cfg call f fn c vs bs = some (r, out)) {C : Ctx} {S : Nat → Prop} {m : Gh} {w : World} (hi : Inv C S m (enumB 0 bs) w) {xs : List Value} (hx : RVs m S w vs xs) (hg : GlobR cfg.glob m S w) (hex : ExC cfg.glob C) (hds : C.ds = []) :
    Calls P f xs.toArray w fun e w' => ∃ S' m' x, e = .returned x ∧ Inv C S' m' (enumB 0 out) w' ∧ RV m' S' w' r x ∧ ∀ i, i < bs.length → ∀ q, m i = some q → m' i = some q := by
  unfold evBody at e
  simp only [Bool.cond_eq_ite] at e
  split at e
  · rename_i hle
    have hle := Nat.le_of_ble_eq_true hle
    have hxl := hx.1
    have hs0 : Sim cfg.glob C bs.length m fn.ntmps ⟨enumT 0 vs, enumB 0 bs⟩ { tmps := xs.toArray ++ Array.replicate (fn.ntmps - xs.toArray.size) undef, defers := [] } w := by
      refine ⟨⟨S, m, hi, ⟨fun t v hv => ?_, hg⟩, fun i _ q hq => hq⟩, by simp; omega, hds.symm, hex⟩
      rw [tget_enum] at hv
      simp only [Nat.zero_le, if_true, Nat.sub_zero] at hv
      obtain ⟨x, hx1, hx2⟩ := hx.get hv
      have hlt := lt_of_get hx1
      refine ⟨by simp; omega, ?_⟩
      have hg : (xs.toArray ++ Array.replicate (fn.ntmps - xs.toArray.size) undef).getD t undef = x := by
        rw [Array.getD_eq_getD_getElem?, Array.getElem?_append_left (by simpa using hlt)]
        simp [hx1]
      simp only
      rw [hg]
      exact hx2
    have fin : ∀ {st : St}, finish P cfg f fn bs.length st = some (r, out) → ∀ {l : List Deferred}, ∀ a' w', Sim cfg.glob (C.wd l) bs.length m fn.ntmps st a' w' →
        a'.defers = l ∧ ∃ v, (results fn a'.tmps).run P w' = .ok v w' ∧ ∃ S' m' x, Ending.returned v = .returned x ∧ Inv C S' m' (enumB 0 out) w' ∧ RV m' S' w' r x ∧ ∀ i, i < bs.length → ∀ q, m i = some q → m' i = some q := by
      intro st e1 l a' w' hs
      obtain ⟨⟨S1, m1, hi1', ht1, hp1⟩, _, hdf⟩ := hs
      have hi1 := hi1'.wd_back
      replace hdf : a'.defers = l := hdf
      unfold finish at e1
      split at e1
      · cases e1
      · rename_i vs' rr' e2
        split at e1
        · cases e1
        · rename_i r0 h0 e3
          split at e1
          · cases e1
          · rename_i ids bs0 e4
            split at e1
            · rename_i r1 bs1 e5 e6
              injection e1 with e1
              injection e1 with e7 e8
              subst e7; subst e8
              obtain ⟨x, hr, hv⟩ := results_run ht1 hi1 e2
              obtain ⟨S2, m2, hx2, hv2⟩ := shapeV_run e3 hi1 hv
              obtain ⟨hn, hpi, hbk⟩ := export_run e4
              refine ⟨hdf, x, hr, S2, ghOf ids m2, x, rfl, export_inv hx2.inv hn hbk e6, renT_run ghOf_ren e5 hv2, fun i hi q hq => ?_⟩
              unfold ghOf; rw [hpi i hi]; exact hx2.mono _ _ (hp1 i hi q hq)
            · cases e1
    have hC : ∀ {st : St} {a' : Act} {w' : World}, Sim cfg.glob C bs.length m fn.ntmps st a' w' → Sim cfg.glob (C.wd []) bs.length m fn.ntmps st a' w' := fun hs => hs.wd rfl (by rw [hs.defers, hds])
    split at e
    · rename_i st e1
      refine calls_of_wp hf hb ?_
      refine evCode_wp hcall hnames hdraw c e1 (hdsts f fn c hf hb) hs0 fun a' w' hs => ?_
      exact fin e a' w' (hC hs)
    · rename_i st e1
      refine calls_of_wp hf hb ?_
      refine evCode_wp hcall hnames hdraw c e1 (hdsts f fn c hf hb) hs0 fun a' w' hs => ?_
      exact fin e a' w' (hC hs)
    · cases e
    · have leave : ∀ {st : St} {g : FuncId}, finish P cfg f fn bs.length st = some (r, out) → ∀ a' w', SimD cfg C bs.length m fn.ntmps st a' w' (some g) →
          Leaves P fn a'.tmps (fun e w' => ∃ S' m' x, e = .returned x ∧ Inv C S' m' (enumB 0 out) w' ∧ RV m' S' w' r x ∧ ∀ i, i < bs.length → ∀ q, m i = some q → m' i = some q) a'.defers .returning w' := by
        intro st g e1 a' w' ⟨cap, dargs, hg1, hs⟩
        obtain ⟨hdf, x, hr, hR⟩ := fin e1 a' w' hs
        obtain ⟨hent, hcd⟩ := hdef g _ hg1 (dargs ++ cap) w' rfl
        rw [hdf]
        refine leaves_cons (by simp) (by simpa [invoke] using hent) (hcd.mono ?_)
        rintro e u w2 ⟨⟨v, rfl⟩, rfl, rfl⟩
        exact ⟨x, hr, hR⟩
      unfold evDef at e
      split at e
      · rename_i st g e1
        refine calls_of_wp_defers hf hb ?_
        refine evCodeD_wp hcall hnames hdraw hds c e1 (hdsts f fn c hf hb) hs0 fun a' w' hs => ?_
        exact leave e a' w' hs
      · rename_i st g e1
        refine calls_of_wp_defers hf hb ?_
        refine evCodeD_wp hcall hnames hdraw hds c e1 (hdsts f fn c hf hb) hs0 fun a' w' hs => ?_
        exact leave e a' w' hs
      · cases e
  · cases e
theorem evBody_ok {cfg : Cfg} {call : CallF} (hcall : CallOk P cfg call) (hnames : NamesOk P) (hdraw : DrawOk P cfg call) (hdef : ∀ g n, n + 1 = cfg.dfr g → DeferOk P g n) (hdsts : DstsOk P) {f : FuncId} {fn : Func} {c : Code} (hf : P.funcs[f]? = some fn) (hb : fn.body = some c)
    {vs : List V} {bs : List Bk} {r : V} {out : List Bk} (e : evBody P cfg call f fn c vs bs = some (r, out)) {C : Ctx} {S : Nat → Prop} {m : Gh} {w : World} (hi : Inv C S m (enumB 0 bs) w) {xs : List Value} (hx : RVs m S w vs xs) (hg : GlobR cfg.glob m S w) (hex : ExC cfg.glob C) :
    Calls P f xs.toArray w fun e w' => ∃ S' m' x, e = .returned x ∧ Inv C S' m' (enumB 0 out) w' ∧ RV m' S' w' r x ∧ ∀ i, i < bs.length → ∀ q, m i = some q → m' i = some q :=
  (evBody_ok0 hcall hnames hdraw hdef hdsts hf hb e (hi.wd []) hx hg (hex.wd []) rfl).mono fun e w' ⟨S', m', x, h1, h2, h3⟩ => ⟨S', m', x, h1, h2.wd_back, h3⟩
end
end Go.Proofs.YthhpdnlfhofanaaGreatDoor
namespace Go.Proofs.YthhpdnlfhofanaaGreatDoor
open Go.RowKit
set_option linter.unusedVariables false
set_option linter.unusedSimpArgs false
section
variable {P : Program} {C : Ctx} {m m' : Gh} {S S' : Nat → Prop} {h : Heap} {w w' : World}
theorem renN_mem : ∀ (l : List Nat) (n i : Nat), i ∈ l → ∃ k, renN (enum n l) i = some k
  | [], n, i, hi => by cases hi
  | j :: l, n, i, hi => by
    simp only [enum, renN, Bool.cond_eq_ite]
    by_cases e : j = i
    · subst e; exact ⟨n, by simp⟩
    · have : Nat.beq j i = false := by rw [← Bool.not_eq_true, Nat.beq_eq]; exact e
      rw [this]
      simp only [Bool.false_eq_true, if_false]
      exact renN_mem l (n + 1) i ((List.mem_cons.1 hi).resolve_left (fun e' => e e'.symm))
theorem renN_none : ∀ (l : List Nat) (n i : Nat), renN (enum n l) i = none → i ∉ l := by
  intro l n i e hm
  obtain ⟨k, hk⟩ := renN_mem l n i hm
  rw [hk] at e; cases e
theorem hget_zip : ∀ (l : List Nat) (bs : List Bk) (n i : Nat), l.length = bs.length → hget (l.zip bs ++ h) i = match renN (enum n l) i with
    | some k => bs[k - n]?
    | none => hget h i
  | [], bs, n, i, hl => by simp [enum, renN]
  | j :: l, [], n, i, hl => by simp at hl
  | j :: l, b :: bs, n, i, hl => by
    simp only [List.zip_cons_cons, List.cons_append, hget_cons, enum, renN, Bool.cond_eq_ite]
    by_cases e : j = i
    · subst e; simp
    · have hb : Nat.beq j i = false := by rw [← Bool.not_eq_true, Nat.beq_eq]; exact e
      rw [if_neg e, hb]
      simp only [Bool.false_eq_true, if_false]
      rw [hget_zip l bs (n + 1) i (by simpa using hl)]
      cases hq : renN (enum (n + 1) l) i with
      | none => rfl
      | some k =>
        have := (renN_enum l (n + 1) i k hq).1
        simp only
        rw [show k - n = (k - (n + 1)) + 1 by omega]
        simp
theorem freshM_run : ∀ (n a : Nat) {u : Unit} {rr : List Nat}, freshM a n h = some (u, rr) → ∀ i, a ≤ i → i < a + n → hget h i = none
  | 0, a, u, rr, e, i, h1, h2 => by omega
  | n + 1, a, u, rr, e, i, h1, h2 => by
    simp only [freshM] at e
    obtain ⟨o, r1, r2, e1, e2, _⟩ := M.inv_bind e
    obtain ⟨rfl, _⟩ := M.inv_rd e1
    generalize hq : hget h a = o at e2
    cases o with
    | some b => cases e2
    | none =>
      by_cases he : a = i
      · subst he; exact hq
      · exact freshM_run n (a + 1) e2 i (by omega) (by omega)
/-- The blocks of the caller's that a call may write. -/
def PmOf (h : Heap) (m : Gh) (ids : List Nat) (b : Nat) : Prop := ∃ i ∈ ids, ∃ c r, hget h i = some c ∧ c.live = true ∧ c.wr = true ∧ m i = some r ∧ r.nil = false ∧ r.blk = b
def PaOf (h : Heap) (m : Gh) (ids : List Nat) (b : Nat) : Prop := ∃ i ∈ ids, ∃ c r, hget h i = some c ∧ c.live = true ∧ m i = some r ∧ r.nil = false ∧ r.blk = b
/-- Behind a call: the caller's blocks and those that the call gave back. -/
theorem merge (hi : Inv C S m h w) {ids : List Nat} (hnd : ids.Nodup) (hlive : ∀ i ∈ ids, ∃ b r, hget h i = some b ∧ b.live = true ∧ m i = some r) {site : Nat} {out bs' : List Bk}
    (hc : Inv ⟨w, S, PmOf h m ids, PaOf h m ids, []⟩ S' m' (enumB 0 out) w') (hp : ∀ (k : Nat) i r, ids[k]? = some i → m i = some r → m' k = some r) (hle : ids.length ≤ out.length)
    (hfresh : ∀ i, site ≤ i → i < site + (out.length - ids.length) → hget h i = none) (hr : renBs (backOf 0 (ids ++ range' site (out.length - ids.length))) out = some bs') :
    ∃ m'', Ext C S m w S' m'' ((ids ++ range' site (out.length - ids.length)).zip bs' ++ h) w' ∧ RenOk (backOf 0 (ids ++ range' site (out.length - ids.length))) m' m'' := by
  generalize hall : ids ++ range' site (out.length - ids.length) = all at hr ⊢
  have hrl : ∀ a n, (range' a n).length = n := by
    intro a n; induction n generalizing a with
    | zero => rfl
    | succ n ih => simp [range', ih]
  have hal : all.length = out.length := by rw [← hall, List.length_append, hrl]; omega
  have hand : all.Nodup := by
    rw [← hall, List.nodup_append]
    refine ⟨hnd, range'_nodup _ _, fun a ha b hb => ?_⟩
    rintro rfl
    obtain ⟨c, _, hc1, _⟩ := hlive a ha
    have := range'_mem hb
    rw [hfresh a this.1 this.2] at hc1; cases hc1
  obtain ⟨hbl, hbg⟩ := renBs_get hr
  have hzl : all.length = bs'.length := by omega
  -- a place and its name
  have hpos : ∀ {k i : Nat}, all[k]? = some i → renN (enum 0 all) i = some k := by
    intro k i hk
    obtain ⟨k', hk'⟩ := renN_mem all 0 i (List.mem_of_getElem? hk)
    have := (renN_enum all 0 i k' hk').2
    simp only [Nat.sub_zero] at this
    rw [hk', nodup_get hand this hk]
  have hposi : ∀ {k i : Nat}, renN (enum 0 all) i = some k → all[k]? = some i := by
    intro k i hk
    have := (renN_enum all 0 i k hk).2
    simpa using this
  -- a name that is an argument's
  have hidp : ∀ {k i : Nat}, ids[k]? = some i → all[k]? = some i := by
    intro k i hk
    rw [← hall, List.getElem?_append_left (lt_of_get hk)]; exact hk
  have hcase : ∀ {k i : Nat}, all[k]? = some i → (ids[k]? = some i ∧ i ∈ ids) ∨ (ids.length ≤ k ∧ hget h i = none) := by
    intro k i hk
    rw [← hall] at hk
    rcases Nat.lt_or_ge k ids.length with hlt | hge
    · rw [List.getElem?_append_left hlt] at hk; exact .inl ⟨hk, List.mem_of_getElem? hk⟩
    · rw [List.getElem?_append_right hge] at hk
      have := range'_mem (List.mem_of_getElem? hk)
      exact .inr ⟨hge, hfresh i this.1 this.2⟩
  let m'' : Gh := fun i => match renN (enum 0 all) i with
    | some k => m' k
    | none => m i
  have hm1 : ∀ {k i : Nat}, all[k]? = some i → m'' i = m' k := by
    intro k i hk
    simp only [m'', hpos hk]
  have hm2 : ∀ {i : Nat}, renN (enum 0 all) i = none → m'' i = m i := by
    intro i hk
    simp only [m'', hk]
  have hmono : ∀ s r, m s = some r → m'' s = some r := by
    intro s r hs
    cases hq : renN (enum 0 all) s with
    | none => rw [hm2 hq]; exact hs
    | some k =>
      rw [hm1 (hposi hq)]
      rcases hcase (hposi hq) with ⟨h1, _⟩ | ⟨_, h1⟩
      · exact hp k s r h1 hs
      · obtain ⟨b, hb⟩ := hi.dom s r hs; rw [h1] at hb; cases hb
  have hnotPm : ∀ b, S b → ¬ PmOf h m ids b := by
    rintro b hSb ⟨i, _, c, r, h1, h2, h3, h4, h5, rfl⟩
    exact ((hi.own i c r h1 h2 h4 h5).2.1 h3).2 hSb
  have hSw : ∀ b, S b → w'.heap[b]? = w.heap[b]? := fun b hb => hc.frame b (hi.st b hb) (hnotPm b hb)
  have hrv : ∀ v x, RV m S w v x → RV m'' S' w' v x := fun v x hv => hv.mono hmono (fun b hb => hc.stOld b hb) hSw
  have hren : RenOk (backOf 0 all) m' m'' := by
    intro k i e r hk
    have := (renN_back all 0 i k e).2
    simp only [Nat.sub_zero] at this
    rw [hm1 this]; exact hk
  have hget' : ∀ {i : Nat} {b : Bk}, hget (all.zip bs' ++ h) i = some b → (∃ (k : Nat) (c : Bk), all[k]? = some i ∧ out[k]? = some c ∧ renB (backOf 0 all) c = some b ∧ b.live = c.live ∧ b.wr = c.wr) ∨ (renN (enum 0 all) i = none ∧ i ∉ all ∧ hget h i = some b) := by
    intro i b hb
    rw [hget_zip all bs' 0 i hzl] at hb
    cases hq : renN (enum 0 all) i with
    | none => rw [hq] at hb; exact .inr ⟨rfl, renN_none _ _ _ hq, hb⟩
    | some k =>
      rw [hq] at hb
      simp only [Nat.sub_zero] at hb
      obtain ⟨c, h1, h2⟩ := hbg k b hb
      have hf := renB_flags h2
      exact .inl ⟨k, c, hposi hq, h1, h2, hf.1, hf.2.1⟩
  -- where a live block of the call's lies, if it was the caller's
  have hown_new : ∀ {k i : Nat} {c : Bk} {r : RB}, all[k]? = some i → out[k]? = some c → c.live = true → m' k = some r → r.nil = false → (C.w0.heap.size ≤ r.blk ∨ C.Pa r.blk) ∧ (c.wr = true → (C.w0.heap.size ≤ r.blk ∨ C.Pm r.blk) ∧ ¬ S' r.blk) ∧ (c.wr = false → S' r.blk) := by
    intro k i c r hk hc1 hcl hm hn
    have := hc.own k c r (by rw [hget_enum0]; exact hc1) hcl hm hn
    have hsz := hi.size
    refine ⟨?_, fun hw => ⟨?_, (this.2.1 hw).2⟩, this.2.2⟩
    · rcases this.1 with h1 | ⟨i0, _, c0, r0, g1, g2, g3, g4, g5⟩
      · exact .inl (Nat.le_trans hsz h1)
      · rw [← g5]; exact (hi.own i0 c0 r0 g1 g2 g3 g4).1
    · rcases (this.2.1 hw).1 with h1 | ⟨i0, _, c0, r0, g1, g2, g3, g4, g5, g6⟩
      · exact .inl (Nat.le_trans hsz h1)
      · rw [← g6]; exact ((hi.own i0 c0 r0 g1 g2 g4 g5).2.1 g3).1
  -- a caller's block that the call did not get lies elsewhere
  have hapart : ∀ {i : Nat} {b : Bk} {r : RB}, i ∉ all → hget h i = some b → b.live = true → m i = some r → r.nil = false → r.blk < w.heap.size ∧ ¬ PaOf h m ids r.blk := by
    intro i b r hni hb hl hm hn
    obtain ⟨r2, hr2, hbk⟩ := hi.bks i b hb hl
    rw [hm] at hr2; injection hr2 with hr2; subst hr2
    refine ⟨hbk.lt hn, ?_⟩
    rintro ⟨i0, hi0, c0, r0, g1, g2, g3, g4, g5⟩
    refine hi.inj i i0 b c0 r r0 (fun e => hni (by rw [e, ← hall]; exact List.mem_append.2 (.inl hi0))) hb g1 hl g2 hm g3 hn g4 g5.symm
  have hPmPa : ∀ b, PmOf h m ids b → PaOf h m ids b := fun b ⟨i, h1, c, r, h2, h3, h4, h5, h6, h7⟩ => ⟨i, h1, c, r, h2, h3, h5, h6, h7⟩
  refine ⟨m'', ⟨⟨hc.os.trans hi.os, hc.tape.trans hi.tape, hc.output.trans hi.output, Nat.le_trans hi.size hc.size, fun b h1 h2 => ?_, fun s r hs => ?_, fun s b hs hl => ?_, fun s s' b b' r r' hne hs hs' hl hl' hm hm' hn hn' => ?_, fun s b r hs hl hm hn => ?_, hc.st, fun b hb => ?_, fun b hb => hc.stOld b (hi.stOld b hb)⟩, hmono, fun b hb => hc.stOld b hb, hrv⟩, hren⟩
  · have hbw : b < w.heap.size := by have := hi.size; omega
    rw [hc.frame b hbw]
    · exact hi.frame b h1 h2
    · rintro ⟨i, _, c, r, g1, g2, g3, g4, g5, rfl⟩
      rcases ((hi.own i c r g1 g2 g4 g5).2.1 g3).1 with h | h
      · omega
      · exact h2 h
  · rw [hget_zip all bs' 0 s hzl]
    cases hq : renN (enum 0 all) s with
    | none => rw [hm2 hq] at hs; exact hi.dom s r hs
    | some k =>
      simp only [Nat.sub_zero]
      exact ⟨_, List.getElem?_eq_getElem (by have := lt_of_get (hposi hq); omega)⟩
  · rcases hget' hs with ⟨k, c, h1, h2, h3, h4, h5⟩ | ⟨h1, hni, h2⟩
    · obtain ⟨r, hr1, hr2⟩ := hc.bks k c (by rw [hget_enum0]; exact h2) (by rw [← h4]; exact hl)
      exact ⟨r, by rw [hm1 h1]; exact hr1, renB_run hren h3 (by rw [← h4]; exact hl) hr2⟩
    · obtain ⟨r, hr1, hr2⟩ := hi.bks s b h2 hl
      refine ⟨r, by rw [hm2 h1]; exact hr1, hr2.mono hrv fun hn => ?_⟩
      have := hapart hni h2 hl hr1 hn
      exact hc.frame _ this.1 (fun hpm => this.2 (hPmPa _ hpm))
  · rcases hget' hs with ⟨k, c, h1, h2, h3, h4, h5⟩ | ⟨h1, hni, h2⟩
    · rw [hm1 h1] at hm
      rcases hget' hs' with ⟨k', c', h1', h2', h3', h4', h5'⟩ | ⟨h1', hni', h2'⟩
      · rw [hm1 h1'] at hm'
        refine hc.inj k k' c c' r r' (fun e => hne ?_) (by rw [hget_enum0]; exact h2) (by rw [hget_enum0]; exact h2') (by rw [← h4]; exact hl) (by rw [← h4']; exact hl') hm hm' hn hn'
        subst e
        rw [h1] at h1'; injection h1'
      · rw [hm2 h1'] at hm'
        have hap := hapart hni' h2' hl' hm' hn'
        have := (hc.own k c r (by rw [hget_enum0]; exact h2) (by rw [← h4]; exact hl) hm hn).1
        intro e
        rcases this with h | h
        · have h' : w.heap.size ≤ r.blk := h
          omega
        · rw [e] at h; exact hap.2 h
    · rw [hm2 h1] at hm
      have hap := hapart hni h2 hl hm hn
      rcases hget' hs' with ⟨k', c', h1', h2', h3', h4', h5'⟩ | ⟨h1', hni', h2'⟩
      · rw [hm1 h1'] at hm'
        have := (hc.own k' c' r' (by rw [hget_enum0]; exact h2') (by rw [← h4']; exact hl') hm' hn').1
        intro e
        rcases this with h | h
        · have h' : w.heap.size ≤ r'.blk := h
          omega
        · rw [← e] at h; exact hap.2 h
      · rw [hm2 h1'] at hm'
        exact hi.inj s s' b b' r r' hne h2 h2' hl hl' hm hm' hn hn'
  · rcases hget' hs with ⟨k, c, h1, h2, h3, h4, h5⟩ | ⟨h1, hni, h2⟩
    · rw [hm1 h1] at hm
      have := hown_new h1 h2 (by rw [← h4]; exact hl) hm hn
      rw [h5]; exact this
    · rw [hm2 h1] at hm
      have := hi.own s b r h2 hl hm hn
      have hap := hapart hni h2 hl hm hn
      refine ⟨this.1, fun hw => ⟨(this.2.1 hw).1, fun hS' => ?_⟩, fun hw => hc.stOld _ (this.2.2 hw)⟩
      rcases hc.stNew _ hS' with h | h | h
      · exact (this.2.1 hw).2 h
      · have h' : w.heap.size ≤ r.blk := h
        omega
      · exact hap.2 (hPmPa _ h)
  · rcases hc.stNew b hb with h | h | ⟨i, _, c, r, g1, g2, g3, g4, g5, rfl⟩
    · exact hi.stNew b h
    · exact .inr (.inl (Nat.le_trans hi.size h))
    · exact .inr ((hi.own i c r g1 g2 g4 g5).2.1 g3).1
end
end Go.Proofs.YthhpdnlfhofanaaGreatDoor
namespace Go.Proofs.YthhpdnlfhofanaaGreatDoor
open Go.RowKit
set_option linter.unusedVariables false
set_option linter.unusedSimpArgs false
section
variable {P : Program} {C : Ctx} {m m' : Gh} {S S' : Nat → Prop} {h : Heap} {w w' : World}
def SpecOk (P : Program) (f : FuncId) (spec : Nat → List V → M (V × Upd)) : Prop :=
  ∀ {C : Ctx} {m : Gh} {S : Nat → Prop} {h : Heap} {w : World} {site : Nat} {vs : List V} {q : V × Upd} {rr : List Nat}, spec site vs h = some (q, rr) → Inv C S m h w →
    ∀ {xs : List Value}, RVs m S w vs xs → Calls P f xs.toArray w fun e w' => ∃ S' m' x, e = .returned x ∧ Ext C S m w S' m' (q.2 ++ h) w' ∧ RV m' S' w' q.1 x
/-- A contract of the model's for a function of values that nobody writes. -/
def PrimOk (P : Program) (gl : Gl) (f : FuncId) (g : List V → Option (Bool × V)) : Prop :=
  ∀ {vs : List V} {r : V}, g vs = some (true, r) → ∀ {S : Nat → Prop} {w : World} {xs : List Value}, (∀ b, S b → b < w.heap.size) → RVs (fun _ => none) S w vs xs → GlobR gl (fun _ => none) S w → ExW gl w →
    Calls P f xs.toArray w fun e w' => ∃ S' x, e = .returned x ∧ Inv ⟨w, S, fun _ => False, fun _ => False, []⟩ S' (fun _ => none) [] w' ∧ RV (fun _ => none) S' w' r x
structure CfgOk (P : Program) (cfg : Cfg) : Prop where
  prim : ∀ f g, cfg.prim f = some g → PrimOk P cfg.glob f g
  self : ∀ f, cfg.self f = true → SpecOk P f fun _ vs => selfV cfg.bld vs
  clone : ∀ f, cfg.clone f = true → SpecOk P f fun site vs => ownV P site f vs
  bstr : ∀ f, cfg.bstr f = true → SpecOk P f fun _ vs => bstrV cfg.bld vs
  dfr : ∀ g n, n + 1 = cfg.dfr g → DeferOk P g n := by exact fun g n h => by cases h
theorem scalarL_rv {v : V} (hs : (match v with | .bool _ | .int .. | .str _ | .nilp | .nilf | .nili | .ifc => true | _ => false) = true) {x : Value} (hx : RV m S w v x) : RV m' S' w' v x := by
  cases hx <;> first | exact .bool _ | exact .int _ _ | exact .str _ | exact .nilp | exact .nilf | exact .nili | exact .ifc _ _ | (simp at hs)
theorem scalar_rv {v : V} (hs : v.scalar = true) {x : Value} (hx : RV m S w v x) : RV m' S' w' v x := by
  cases v with
  | agg cs =>
    obtain ⟨xs, rfl, hxs⟩ := hx.agg_inv
    have hall := List.all_eq_true.1 (show cs.all _ = true from hs)
    exact RV.agg' ⟨hxs.1, fun i v x hv hx => scalarL_rv (by have := hall v (List.mem_of_getElem? hv); cases v <;> first | rfl | simp at this) (hxs.2 i v x hv hx)⟩
  | tup cs =>
    obtain ⟨xs, rfl, hxs⟩ := hx.tup_inv
    have hall := List.all_eq_true.1 (show cs.all _ = true from hs)
    refine RV.tup' ⟨hxs.1, fun i v x hv hx => ?_⟩
    have hv' := hall v (List.mem_of_getElem? hv)
    have hx' := hxs.2 i v x hv hx
    cases v with
    | agg ds =>
      obtain ⟨ys, rfl, hys⟩ := hx'.agg_inv
      have hall2 := List.all_eq_true.1 (show ds.all _ = true from hv')
      exact RV.agg' ⟨hys.1, fun i v x hv hx => scalarL_rv (by have := hall2 v (List.mem_of_getElem? hv); cases v <;> first | rfl | simp at this) (hys.2 i v x hv hx)⟩
    | _ => first | exact scalarL_rv rfl hx' | (simp at hv')
  | _ => first | exact scalarL_rv rfl hx | (simp [V.scalar] at hs)
/-- A call that only reads. -/
theorem Inv.quiet (hi : Inv C S m h w) {S0 : Nat → Prop} {Pm Pa : Nat → Prop} {m' : Gh} {h' : Heap} (hpm : ∀ b, ¬ Pm b) (hc : Inv ⟨w, S0, Pm, Pa, []⟩ S' m' h' w') : Ext C S m w S m h w' := by
  have hold : ∀ b, b < w.heap.size → w'.heap[b]? = w.heap[b]? := fun b hb => hc.frame b hb (hpm b)
  have hrv : ∀ v x, RV m S w v x → RV m S w' v x := fun v x hv => hv.mono (fun _ _ h => h) (fun _ h => h) (fun b hb => hold b (hi.st b hb))
  refine ⟨⟨hc.os.trans hi.os, hc.tape.trans hi.tape, hc.output.trans hi.output, Nat.le_trans hi.size hc.size, fun b h1 h2 => ?_, hi.dom, fun s b hs hl => ?_, hi.inj, hi.own, fun b hb => Nat.lt_of_lt_of_le (hi.st b hb) hc.size, hi.stNew, hi.stOld⟩, fun _ _ h => h, fun _ h => h, hrv⟩
  · rw [hold b (by have := hi.size; omega)]; exact hi.frame b h1 h2
  · obtain ⟨r, h1, h2⟩ := hi.bks s b hs hl
    exact ⟨r, h1, h2.mono hrv (fun hn => hold _ (h2.lt hn))⟩
/-- The memory as a call finds it that gets no blocks. -/
theorem start_inv (S0 : Nat → Prop) (hst : ∀ b, S0 b → b < w.heap.size) (Pm Pa : Nat → Prop) : Inv ⟨w, S0, Pm, Pa, []⟩ S0 (fun _ => none) (enumB 0 []) w :=
  ⟨rfl, rfl, rfl, Nat.le_refl _, fun _ _ _ => rfl, (fun _ _ h => by cases h), (fun s b hs _ => by rw [hget_enum0] at hs; simp at hs), (fun s s' b b' r r' _ hs => by rw [hget_enum0] at hs; simp at hs), (fun s b r hs => by rw [hget_enum0] at hs; simp at hs), hst, fun _ h => .inl h, fun _ h => h⟩
theorem treeAs_none {vs : List V} {xs : List Value} (ht : ∀ v ∈ vs, V.treeA v = true) (hx : RVs m S w vs xs) : RVs m' S w vs xs :=
  ⟨hx.1, fun i v x hv hx' => (hx.2 i v x hv hx').treeA (ht v (List.mem_of_getElem? hv))⟩
theorem treeTB_rv {v : V} (ht : treeTB v = true) {x : Value} (hx : RV m S w v x) : RV m' S w v x := by
  by_cases hf : ∃ cs, v = .tup cs
  · obtain ⟨cs, rfl⟩ := hf
    obtain ⟨xs, rfl, hxs⟩ := hx.tup_inv
    exact RV.tup' (treeAs_none (List.all_eq_true.1 (show cs.all V.treeA = true from ht)) hxs)
  · refine hx.treeA ?_
    cases v <;> first | exact ht | exact absurd ⟨_, rfl⟩ hf
theorem inv_bring {site : Nat} {ids : List Nat} {r : V} {out : List Bk} {q : V × Upd} {rr : List Nat} (e : bring site ids r out h = some (q, rr)) :
    ids.length ≤ out.length ∧ (∀ i, site ≤ i → i < site + (out.length - ids.length) → hget h i = none) ∧ ∃ r' bs', renT (backOf 0 (ids ++ range' site (out.length - ids.length))) r = some r' ∧ renBs (backOf 0 (ids ++ range' site (out.length - ids.length))) out = some bs' ∧
      q = (r', (ids ++ range' site (out.length - ids.length)).zip bs') := by
  unfold bring at e
  obtain ⟨_, r1, r2, e1, e2, _⟩ := M.inv_bind e
  obtain ⟨hle, _⟩ := M.inv_guard e1
  simp only at e2
  generalize hr : renT (backOf 0 (ids ++ range' site (out.length - ids.length))) r = ro at e2
  generalize hb : renBs (backOf 0 (ids ++ range' site (out.length - ids.length))) out = bo at e2
  split at e2
  · rename_i r' bs'
    obtain ⟨_, r3, r4, e3, e4, _⟩ := M.inv_bind e2
    obtain ⟨rfl, _⟩ := M.inv_pure e4
    exact ⟨Nat.le_of_ble_eq_true hle, freshM_run _ _ e3, r', bs', rfl, rfl, rfl⟩
  · cases e2
theorem Inv.with (hi : Inv C S m h w) {w2 : World} (e1 : w2 = w) : Inv C S m h w2 := by subst e1; exact hi
/-- The memory as a call finds it that gets some blocks. -/
theorem give_inv (hi : Inv C S m h w) {ids : List Nat} {bs bs' : List Bk} (hn : ids.Nodup) (hb : bs.length = ids.length ∧ ∀ (k : Nat) i, ids[k]? = some i → ∃ b, bs[k]? = some b ∧ hget h i = some b) (hl : ∀ b ∈ bs, b.live = true) (hr : renBs (renOf ids) bs = some bs') :
    Inv ⟨w, S, PmOf h m ids, PaOf h m ids, []⟩ S (ghOf ids m) (enumB 0 bs') w := by
  have he := export_inv hi hn hb hr
  obtain ⟨hlen, hget'⟩ := renBs_get hr
  refine ⟨rfl, rfl, rfl, Nat.le_refl _, fun _ _ _ => rfl, he.dom, he.bks, he.inj, fun k b' r hk hl' hm hnil => ?_, hi.st, fun _ h => .inl h, fun _ h => h⟩
  have := he.own k b' r hk hl' hm hnil
  rw [hget_enum0] at hk
  obtain ⟨b, hb1, hb2⟩ := hget' k b' hk
  have hf := renB_flags hb2
  have hlt := lt_of_get hb1
  have hik : ids[k]? = some (ids[k]'(by omega)) := List.getElem?_eq_getElem (by omega)
  obtain ⟨b2, h1, h2⟩ := hb.2 k _ hik
  rw [hb1] at h1; injection h1 with h1; subst h1
  unfold ghOf at hm
  rw [hik] at hm
  have hmem : ids[k]'(by omega) ∈ ids := List.getElem_mem ..
  exact ⟨.inr ⟨_, hmem, b, r, h2, by rw [← hf.1]; exact hl', hm, hnil, rfl⟩, fun hw => ⟨.inr ⟨_, hmem, b, r, h2, by rw [← hf.1]; exact hl', by rw [← hf.2.1]; exact hw, hm, hnil, rfl⟩, (this.2.1 hw).2⟩, this.2.2⟩
theorem GlobR.sub {gl : Gl} (h : GlobR gl m S w) (hs : ∀ b, S b → S' b) : GlobR gl m' S' w := fun g cs e => ((h g cs e).mono (fun _ _ h => h) hs (fun _ _ => rfl)).rptr_any
theorem ExC.at_ {gl : Gl} (hex : ExC gl C) (hi : Inv C S m h w) : ExW gl w := fun g cs e => by
  obtain ⟨h1, h2, arr, t, fr, h3, h4⟩ := hex g cs e
  exact ⟨arr, t, fr, by rw [hi.frame g h1 h2]; exact h3, h4⟩
theorem ExW.start {gl : Gl} (h : ExW gl w) {S0 Pm Pa : Nat → Prop} (hp : ∀ g cs, gl g = some cs → ¬ Pm g) : ExC gl ⟨w, S0, Pm, Pa, []⟩ := fun g cs e => by
  obtain ⟨arr, t, fr, h1, h2⟩ := h g cs e
  refine ⟨?_, hp g cs e, arr, t, fr, h1, h2⟩
  rcases Nat.lt_or_ge g w.heap.size with h' | h'
  · exact h'
  · simp [Array.getElem?_eq_none h'] at h1
theorem GlobR.inS {gl : Gl} (hgl : GlobR gl m S w) {g : Nat} {cs : List V} (e : gl g = some cs) : S g := by
  have := hgl g cs e
  cases this
  assumption
theorem pmOf_not (hi : Inv C S m h w) {ids : List Nat} {b : Nat} (hb : S b) (hp : PmOf h m ids b) : False := by
  obtain ⟨i, _, c, r, h1, h2, h3, h4, h5, rfl⟩ := hp
  exact ((hi.own i c r h1 h2 h4 h5).2.1 h3).2 hb
theorem callV_ok {cfg : Cfg} {call : CallF} (hcfg : CfgOk P cfg) (hfun : FunOk P cfg.glob call) : CallOk P cfg call := by
  intro C m S h w site f vs q rr e hi xs hx hgl hex hfn
  have hew := hex.at_ hi
  unfold callV at e
  -- what a call that only reads leaves
  have quiet : ∀ {vs' : List V} {ids r1 : List Nat}, treeAs vs h = some ((vs', ids), r1) → ∃ S0 : Nat → Prop, (∀ b, S0 b → b < w.heap.size) ∧ RVs (fun _ => none) S0 w vs' xs ∧ GlobR cfg.glob (fun _ => none) S0 w := by
    intro vs' ids r1 e1
    obtain ⟨ht, hok, hq⟩ := treeAs_run e1 hi hx
    refine ⟨fun b => S b ∨ ∃ i ∈ ids, ∃ r, m i = some r ∧ r.nil = false ∧ r.blk = b, ?_, treeAs_none ht (hq _ (fun b hb => .inl hb) (fun i hi r hr hn => .inr ⟨i, hi, r, hr, hn, rfl⟩)), hgl.sub fun b hb => .inl hb⟩
    rintro b (hb | ⟨i, hi', r, hr, hn, rfl⟩)
    · exact hi.st b hb
    · obtain ⟨c, hc, hl⟩ := hok i hi'
      obtain ⟨r', hr', hbk⟩ := hi.bks i c hc hl
      rw [hr] at hr'; injection hr' with hr'; subst hr'
      exact hbk.lt hn
  cases hg : cfg.prim f with
  | some g =>
    simp only [hg] at e
    obtain ⟨⟨vs', ids⟩, r1, r2, e1, e2, _⟩ := M.inv_bind e
    simp only at e2
    cases hgv : g vs' with
    | none => simp only [hgv] at e2; cases e2
    | some cr =>
      obtain ⟨c, r⟩ := cr
      simp only [hgv] at e2
      obtain ⟨_, r3, r4, e3, e4, _⟩ := M.inv_bind e2
      obtain ⟨htb, _⟩ := M.inv_guard e3
      simp only [Bool.and_eq_true] at htb
      obtain ⟨rfl, htb⟩ := htb
      cases hsc : r.scalar with
      | true =>
        simp only [hsc, cond_true] at e4
        obtain ⟨rfl, _⟩ := M.inv_pure e4
        obtain ⟨S0, hst, hxs, hgs⟩ := quiet e1
        refine (hcfg.prim f g hg hgv hst hxs hgs hew).mono ?_
        rintro e' w' ⟨S1, x, rfl, hc, hv⟩
        exact ⟨S, m, x, rfl, hi.quiet (fun _ h => h) hc, scalar_rv hsc hv⟩
      | false =>
        simp only [hsc, cond_false] at e4
        obtain ⟨z, r5, r6, e5, e6, _⟩ := M.inv_bind e4
        obtain ⟨rfl, _⟩ := M.inv_pure e6
        obtain ⟨ht, hok, hq⟩ := treeAs_run e1 hi hx
        obtain ⟨S1, hx1, hf1, _⟩ := freeze_run e5 hi
        refine (hcfg.prim f g hg hgv hx1.inv.st (treeAs_none ht (hq S1 hx1.sub hf1)) (hgl.sub hx1.sub) hew).mono ?_
        rintro e' w' ⟨S2, x, rfl, hc, hv⟩
        have hc' : Inv ⟨w, S1, PmOf (z ++ h) m [], PaOf (z ++ h) m [], []⟩ S2 (fun _ => none) (enumB 0 []) w' :=
          ⟨hc.os, hc.tape, hc.output, hc.size, fun b h1 _ => hc.frame b h1 (fun h => h), (fun _ _ h => by cases h), (fun s b hs _ => by rw [hget_enum0] at hs; simp at hs), (fun s s' b b' r r' _ hs => by rw [hget_enum0] at hs; simp at hs), (fun s b r hs => by rw [hget_enum0] at hs; simp at hs), hc.st,
            fun b hb => (hc.stNew b hb).imp id (fun h => h.imp id (fun h => h.elim)), hc.stOld⟩
        obtain ⟨m'', hx2, _⟩ := merge (site := 0) (out := []) (bs' := []) hx1.inv (ids := []) (by simp) (by simp) hc' (by simp) (by simp) (fun i h1 h2 => by simp at h2) rfl
        refine ⟨S2, m'', x, rfl, hx1.trans (by simpa using hx2), treeTB_rv htb hv⟩
  | none =>
    simp only [hg] at e
    cases h1 : cfg.self f with
    | true => simp only [h1, cond_true] at e; exact hcfg.self f h1 (site := site) e hi hx
    | false =>
      simp only [h1, cond_false] at e
      cases h2 : cfg.clone f with
      | true => simp only [h2, cond_true] at e; exact hcfg.clone f h2 e hi hx
      | false =>
        simp only [h2, cond_false] at e
        cases h3 : cfg.bstr f with
        | true => simp only [h3, cond_true] at e; exact hcfg.bstr f h3 (site := site) e hi hx
        | false =>
          simp only [h3, cond_false] at e
          cases h4 : cfg.ref f with
          | true =>
            simp only [h4, cond_true] at e
            obtain ⟨ids, r1, r2, e1, e2, _⟩ := M.inv_bind e
            obtain ⟨bs, r3, r4, e3, e4, _⟩ := M.inv_bind e2
            obtain ⟨_, r5, r6, e5, e6, _⟩ := M.inv_bind e4
            obtain ⟨hlive, _⟩ := M.inv_guard e5
            have hlive := List.all_eq_true.1 hlive
            obtain ⟨_, hnd⟩ := reach_run _ _ _ _ _ e1
            have hnd := hnd (by simp)
            have hrd := rdAll_run _ _ _ e3
            generalize hra : renAs (renOf ids) vs = ao at e6
            generalize hrb : renBs (renOf ids) bs = bo at e6
            split at e6
            · rename_i vs' bs'
              cases hcl : call f vs' bs' with
              | none => simp only [hcl] at e6; cases e6
              | some ro =>
                obtain ⟨r, out⟩ := ro
                simp only [hcl] at e6
                obtain ⟨hle, hfresh, r', bs'', hr1, hr2, rfl⟩ := inv_bring e6
                have hgi := give_inv hi hnd hrd hlive hrb
                have hxs := renAs_run (S := S) (w := w) ghOf_ren hra hx
                refine (hfun hcl hgi hxs hgl.any (hew.start fun g cs e hp => pmOf_not hi (hgl.inS e) hp)).mono ?_
                rintro e' w' ⟨S1, m1, x, rfl, hc, hv, hp⟩
                have hbl : bs'.length = ids.length := by rw [(renBs_get hrb).1, hrd.1]
                obtain ⟨m'', hx2, hren⟩ := merge (site := site) (bs' := bs'') hi hnd (fun i hi' => by
                    obtain ⟨k, hk⟩ := List.mem_iff_getElem?.1 hi'
                    obtain ⟨b, hb1, hb2⟩ := hrd.2 k i hk
                    have hl := hlive b (List.mem_of_getElem? hb1)
                    obtain ⟨r, hr, _⟩ := hi.bks i b hb2 hl
                    exact ⟨b, r, hb2, hl, hr⟩) hc (fun k i r hk hr => hp k (by rw [hbl]; exact lt_of_get hk) r (by unfold ghOf; rw [hk]; exact hr)) hle hfresh hr2
                exact ⟨S1, m'', x, rfl, hx2, renT_run hren hr1 hv⟩
            · cases e6
          | false =>
            simp only [h4, cond_false] at e
            obtain ⟨⟨vs', ids⟩, r1, r2, e1, e2, _⟩ := M.inv_bind e
            simp only at e2
            cases hcl : call f vs' [] with
            | none => simp only [hcl] at e2; cases e2
            | some ro =>
              obtain ⟨r, out⟩ := ro
              simp only [hcl] at e2
              cases hsc : r.scalar with
              | true =>
                simp only [hsc, cond_true] at e2
                obtain ⟨_, r3, r4, e3, e4, _⟩ := M.inv_bind e2
                obtain ⟨rfl, _⟩ := M.inv_pure e4
                obtain ⟨S0, hst, hxs, hgs⟩ := quiet e1
                refine (hfun hcl (start_inv S0 hst (fun _ => False) (fun _ => False)) hxs hgs (hew.start fun _ _ _ h => h)).mono ?_
                rintro e' w' ⟨S1, m1, x, rfl, hc, hv, _⟩
                exact ⟨S, m, x, rfl, hi.quiet (fun _ h => h) hc, scalar_rv hsc hv⟩
              | false =>
                simp only [hsc, cond_false] at e2
                obtain ⟨z, r5, r6, e5, e6, _⟩ := M.inv_bind e2
                obtain ⟨⟨r', u⟩, r7, r8, e7, e8, _⟩ := M.inv_bind e6
                obtain ⟨rfl, _⟩ := M.inv_pure e8
                obtain ⟨hle, hfresh, r2', bs'', hr1, hr2, heq⟩ := inv_bring e7
                injection heq with heq1 heq2
                subst heq1; subst heq2
                obtain ⟨ht, hok, hq⟩ := treeAs_run e1 hi hx
                obtain ⟨S1, hx1, hf1, hg1, hn1⟩ := freeze_run e5 hi
                refine (hfun hcl (start_inv S1 hx1.inv.st (PmOf (z ++ h) m []) (PaOf (z ++ h) m [])) (treeAs_none ht (hq S1 hx1.sub hf1)) (hgl.sub hx1.sub) (hew.start fun g cs e hp => pmOf_not hx1.inv (hx1.sub _ (hgl.inS e)) hp)).mono ?_
                rintro e' w' ⟨S2, m1, x, rfl, hc, hv, _⟩
                obtain ⟨m'', hx2, hren⟩ := merge (site := site) (bs' := bs'') hx1.inv (ids := []) (by simp) (by simp) hc (by simp) hle (fun i h1' h2' => by
                    have := hfresh i h1' h2'
                    by_cases hm : i ∈ ids
                    · obtain ⟨c, hc1, _⟩ := hok i hm
                      rw [this] at hc1; cases hc1
                    · rw [hn1 i hm]; exact this) hr2
                refine ⟨S2, m'', x, rfl, ?_, renT_run hren hr1 hv⟩
                have := hx1.trans hx2
                simpa [List.append_assoc] using this
end
end Go.Proofs.YthhpdnlfhofanaaGreatDoor
namespace Go.Proofs.YthhpdnlfhofanaaGreatDoor
open Go.RowKit
set_option linter.unusedVariables false
set_option linter.unusedSimpArgs false
structure Loc {α : Type} (x : M α) : Prop where
  run : ∀ {h h' : Heap} {a : α} {r : List Nat}, x h = some (a, r) → (∀ s ∈ r, hget h s = hget h' s) → x h' = some (a, r)
section
variable {α β : Type}
theorem Loc.pure (a : α) : Loc (Pure.pure a : M α) := ⟨fun e _ => by
  obtain ⟨rfl, rfl⟩ := M.inv_pure e
  rfl⟩
theorem Loc.pure' (a : α) : Loc (M.pure a : M α) := Loc.pure a
theorem Loc.fail : Loc (M.fail : M α) := ⟨fun e _ => by cases e⟩
theorem Loc.lift (o : Option α) : Loc (M.lift o) := ⟨fun e _ => e⟩
theorem Loc.guard (b : Bool) : Loc (M.guard b) := by
  unfold M.guard
  cases b
  · exact Loc.fail
  · exact Loc.pure _
theorem Loc.bind {x : M α} {f : α → M β} (hx : Loc x) (hf : ∀ a, Loc (f a)) : Loc (x >>= f) := by
  refine ⟨fun {h h' b r} e hr => ?_⟩
  obtain ⟨a, r1, r2, e1, e2, rfl⟩ := M.inv_bind e
  have e1' := hx.run e1 (fun s hs => hr s (List.mem_append_left _ hs))
  have e2' := (hf a).run e2 (fun s hs => hr s (List.mem_append_right _ hs))
  show M.bind x f h' = _
  unfold M.bind
  rw [e1']
  simp only
  rw [e2']
theorem Loc.rd (i : Nat) : Loc (M.rd i) := by
  refine ⟨fun {h h' b r} e hr => ?_⟩
  unfold M.rd at e ⊢
  injection e with e
  injection e with e1 e2
  subst e2
  rw [← e1, hr i (by simp)]
theorem Loc.opt (o : Option α) : Loc (opt o) := Loc.lift _
theorem Loc.cond {x y : M α} {b : Bool} (hx : Loc x) (hy : Loc y) : Loc (bif b then x else y) := by cases b <;> assumption
end
theorem Loc.rdl (i : Nat) : Loc (rdl i) := by unfold Go.Proofs.YthhpdnlfhofanaaGreatDoor.rdl; (repeat' first | assumption | exact Loc.pure _ | exact Loc.pure' _ | exact Loc.fail | exact Loc.lift _ | exact Loc.guard _ | exact Loc.rd _ | exact Loc.opt _ | refine Loc.bind ?_ fun _ => ?_ | refine Loc.cond ?_ ?_ | split)
theorem Loc.newB (i : Nat) (b : Bk) : Loc (newB i b) := by unfold Go.Proofs.YthhpdnlfhofanaaGreatDoor.newB; (repeat' first | assumption | exact Loc.pure _ | exact Loc.pure' _ | exact Loc.fail | exact Loc.lift _ | exact Loc.guard _ | exact Loc.rd _ | exact Loc.opt _ | refine Loc.bind ?_ fun _ => ?_ | refine Loc.cond ?_ ?_ | split)
theorem Loc.treeL (v : V) : Loc (treeL v) := by unfold Go.Proofs.YthhpdnlfhofanaaGreatDoor.treeL; (repeat' first | assumption | exact Loc.pure _ | exact Loc.pure' _ | exact Loc.fail | exact Loc.lift _ | exact Loc.guard _ | exact Loc.rd _ | exact Loc.opt _ | exact Loc.rdl _ | exact Loc.newB _ _ | refine Loc.bind ?_ fun _ => ?_ | refine Loc.cond ?_ ?_ | split)
theorem Loc.treeLs : ∀ vs : List V, Loc (treeLs vs)
  | [] => Loc.pure _
  | v :: t => by unfold Go.Proofs.YthhpdnlfhofanaaGreatDoor.treeLs; have := Loc.treeLs t; have := Loc.treeL v; (repeat' first | assumption | exact Loc.pure _ | exact Loc.pure' _ | exact Loc.fail | exact Loc.lift _ | exact Loc.guard _ | exact Loc.rd _ | exact Loc.opt _ | exact Loc.rdl _ | exact Loc.newB _ _ | refine Loc.bind ?_ fun _ => ?_ | refine Loc.cond ?_ ?_ | split)
theorem Loc.treeA (v : V) : Loc (treeA v) := by
  unfold Go.Proofs.YthhpdnlfhofanaaGreatDoor.treeA
  split
  · rename_i cs
    have := Loc.treeLs cs
    (repeat' first | assumption | exact Loc.pure _ | exact Loc.pure' _ | exact Loc.fail | exact Loc.lift _ | exact Loc.guard _ | exact Loc.rd _ | exact Loc.opt _ | exact Loc.rdl _ | exact Loc.newB _ _ | refine Loc.bind ?_ fun _ => ?_ | refine Loc.cond ?_ ?_ | split)
  · exact Loc.treeL _
theorem Loc.treeAs : ∀ vs : List V, Loc (treeAs vs)
  | [] => Loc.pure _
  | v :: t => by unfold Go.Proofs.YthhpdnlfhofanaaGreatDoor.treeAs; have := Loc.treeAs t; have := Loc.treeA v; (repeat' first | assumption | exact Loc.pure _ | exact Loc.pure' _ | exact Loc.fail | exact Loc.lift _ | exact Loc.guard _ | exact Loc.rd _ | exact Loc.opt _ | exact Loc.rdl _ | exact Loc.newB _ _ | refine Loc.bind ?_ fun _ => ?_ | refine Loc.cond ?_ ?_ | split)
theorem Loc.treeEs : ∀ vs : List (List V), Loc (treeEs vs)
  | [] => Loc.pure _
  | v :: t => by unfold Go.Proofs.YthhpdnlfhofanaaGreatDoor.treeEs; have := Loc.treeEs t; have := Loc.treeLs v; (repeat' first | assumption | exact Loc.pure _ | exact Loc.pure' _ | exact Loc.fail | exact Loc.lift _ | exact Loc.guard _ | exact Loc.rd _ | exact Loc.opt _ | exact Loc.rdl _ | exact Loc.newB _ _ | refine Loc.bind ?_ fun _ => ?_ | refine Loc.cond ?_ ?_ | split)
theorem Loc.freeze : ∀ vs : List Nat, Loc (freeze vs)
  | [] => Loc.pure _
  | v :: t => by unfold Go.Proofs.YthhpdnlfhofanaaGreatDoor.freeze; have := Loc.freeze t; (repeat' first | assumption | exact Loc.pure _ | exact Loc.pure' _ | exact Loc.fail | exact Loc.lift _ | exact Loc.guard _ | exact Loc.rd _ | exact Loc.opt _ | exact Loc.rdl _ | exact Loc.newB _ _ | refine Loc.bind ?_ fun _ => ?_ | refine Loc.cond ?_ ?_ | split)
theorem Loc.rdAll : ∀ vs : List Nat, Loc (rdAll vs)
  | [] => Loc.pure _
  | v :: t => by unfold Go.Proofs.YthhpdnlfhofanaaGreatDoor.rdAll; have := Loc.rdAll t; (repeat' first | assumption | exact Loc.pure _ | exact Loc.pure' _ | exact Loc.fail | exact Loc.lift _ | exact Loc.guard _ | exact Loc.rd _ | exact Loc.opt _ | exact Loc.rdl _ | exact Loc.newB _ _ | refine Loc.bind ?_ fun _ => ?_ | refine Loc.cond ?_ ?_ | split)
theorem Loc.reach : ∀ (n : Nat) (a b : List Nat), Loc (reach n a b)
  | 0, [], b => by unfold Go.Proofs.YthhpdnlfhofanaaGreatDoor.reach; (repeat' first | assumption | exact Loc.pure _ | exact Loc.pure' _ | exact Loc.fail | exact Loc.lift _ | exact Loc.guard _ | exact Loc.rd _ | exact Loc.opt _ | exact Loc.rdl _ | exact Loc.newB _ _ | refine Loc.bind ?_ fun _ => ?_ | refine Loc.cond ?_ ?_ | split)
  | 0, _ :: _, b => by unfold Go.Proofs.YthhpdnlfhofanaaGreatDoor.reach; (repeat' first | assumption | exact Loc.pure _ | exact Loc.pure' _ | exact Loc.fail | exact Loc.lift _ | exact Loc.guard _ | exact Loc.rd _ | exact Loc.opt _ | exact Loc.rdl _ | exact Loc.newB _ _ | refine Loc.bind ?_ fun _ => ?_ | refine Loc.cond ?_ ?_ | split)
  | n + 1, [], b => by unfold Go.Proofs.YthhpdnlfhofanaaGreatDoor.reach; (repeat' first | assumption | exact Loc.pure _ | exact Loc.pure' _ | exact Loc.fail | exact Loc.lift _ | exact Loc.guard _ | exact Loc.rd _ | exact Loc.opt _ | exact Loc.rdl _ | exact Loc.newB _ _ | refine Loc.bind ?_ fun _ => ?_ | refine Loc.cond ?_ ?_ | split)
  | n + 1, i :: t, b => by
    unfold Go.Proofs.YthhpdnlfhofanaaGreatDoor.reach
    have h1 := Loc.reach n t b
    refine Loc.cond h1 (Loc.bind (Loc.rd _) fun x => ?_)
    cases x with
    | none => exact Loc.fail
    | some c => exact Loc.reach n _ _
theorem Loc.elemsOf (v : V) : Loc (elemsOf v) := by unfold Go.Proofs.YthhpdnlfhofanaaGreatDoor.elemsOf; (repeat' first | assumption | exact Loc.pure _ | exact Loc.pure' _ | exact Loc.fail | exact Loc.lift _ | exact Loc.guard _ | exact Loc.rd _ | exact Loc.opt _ | exact Loc.rdl _ | exact Loc.newB _ _ | refine Loc.bind ?_ fun _ => ?_ | refine Loc.cond ?_ ?_ | split)
theorem Loc.freshM : ∀ (a n : Nat), Loc (freshM a n)
  | _, 0 => Loc.pure _
  | a, n + 1 => by
    unfold Go.Proofs.YthhpdnlfhofanaaGreatDoor.freshM
    have := Loc.freshM (a + 1) n
    (repeat' first | assumption | exact Loc.pure _ | exact Loc.pure' _ | exact Loc.fail | exact Loc.lift _ | exact Loc.guard _ | exact Loc.rd _ | exact Loc.opt _ | exact Loc.rdl _ | exact Loc.newB _ _ | refine Loc.bind ?_ fun _ => ?_ | refine Loc.cond ?_ ?_ | split)
theorem Loc.bring (site : Nat) (ids : List Nat) (r : V) (out : List Bk) : Loc (bring site ids r out) := by
  unfold Go.Proofs.YthhpdnlfhofanaaGreatDoor.bring
  have := Loc.freshM site (out.length - ids.length)
  refine Loc.bind (Loc.guard _) fun _ => ?_
  dsimp only
  (repeat' first | assumption | exact Loc.pure _ | exact Loc.pure' _ | exact Loc.fail | exact Loc.lift _ | exact Loc.guard _ | exact Loc.rd _ | exact Loc.opt _ | exact Loc.rdl _ | exact Loc.newB _ _ | refine Loc.bind ?_ fun _ => ?_ | refine Loc.cond ?_ ?_ | split)
theorem Loc.appendV (ty site bytes z : Nat) (s x : V) : Loc (appendV ty site bytes z s x) := by unfold Go.Proofs.YthhpdnlfhofanaaGreatDoor.appendV; (repeat' first | assumption | exact Loc.pure _ | exact Loc.pure' _ | exact Loc.fail | exact Loc.lift _ | exact Loc.guard _ | exact Loc.rd _ | exact Loc.opt _ | exact Loc.rdl _ | exact Loc.newB _ _ | exact Loc.treeLs _ | exact Loc.treeAs _ | exact Loc.treeEs _ | exact Loc.freeze _ | exact Loc.rdAll _ | exact Loc.reach _ _ _ | exact Loc.elemsOf _ | exact Loc.bring _ _ _ _ | refine Loc.bind ?_ fun _ => ?_ | refine Loc.cond ?_ ?_ | split | (dsimp only; done) | dsimp only)
theorem Loc.copyV (z : Nat) (d s : V) : Loc (copyV z d s) := by unfold Go.Proofs.YthhpdnlfhofanaaGreatDoor.copyV; (repeat' first | assumption | exact Loc.pure _ | exact Loc.pure' _ | exact Loc.fail | exact Loc.lift _ | exact Loc.guard _ | exact Loc.rd _ | exact Loc.opt _ | exact Loc.rdl _ | exact Loc.newB _ _ | exact Loc.treeLs _ | exact Loc.treeAs _ | exact Loc.treeEs _ | exact Loc.freeze _ | exact Loc.rdAll _ | exact Loc.reach _ _ _ | exact Loc.elemsOf _ | exact Loc.bring _ _ _ _ | refine Loc.bind ?_ fun _ => ?_ | refine Loc.cond ?_ ?_ | split | (dsimp only; done) | dsimp only)
theorem Loc.selfV (bld : Nat) (vs : List V) : Loc (selfV bld vs) := by unfold Go.Proofs.YthhpdnlfhofanaaGreatDoor.selfV; (repeat' first | assumption | exact Loc.pure _ | exact Loc.pure' _ | exact Loc.fail | exact Loc.lift _ | exact Loc.guard _ | exact Loc.rd _ | exact Loc.opt _ | exact Loc.rdl _ | exact Loc.newB _ _ | exact Loc.treeLs _ | exact Loc.treeAs _ | exact Loc.treeEs _ | exact Loc.freeze _ | exact Loc.rdAll _ | exact Loc.reach _ _ _ | exact Loc.elemsOf _ | exact Loc.bring _ _ _ _ | refine Loc.bind ?_ fun _ => ?_ | refine Loc.cond ?_ ?_ | split | (dsimp only; done) | dsimp only)
theorem Loc.bstrV (bld : Nat) (vs : List V) : Loc (bstrV bld vs) := by unfold Go.Proofs.YthhpdnlfhofanaaGreatDoor.bstrV; (repeat' first | assumption | exact Loc.pure _ | exact Loc.pure' _ | exact Loc.fail | exact Loc.lift _ | exact Loc.guard _ | exact Loc.rd _ | exact Loc.opt _ | exact Loc.rdl _ | exact Loc.newB _ _ | exact Loc.treeLs _ | exact Loc.treeAs _ | exact Loc.treeEs _ | exact Loc.freeze _ | exact Loc.rdAll _ | exact Loc.reach _ _ _ | exact Loc.elemsOf _ | exact Loc.bring _ _ _ _ | refine Loc.bind ?_ fun _ => ?_ | refine Loc.cond ?_ ?_ | split | (dsimp only; done) | dsimp only)
section
variable (P : Program) (cfg : Cfg)
theorem Loc.loadV (t : TypeId) (p : V) : Loc (loadV P t p) := by unfold Go.Proofs.YthhpdnlfhofanaaGreatDoor.loadV; (repeat' first | assumption | exact Loc.pure _ | exact Loc.pure' _ | exact Loc.fail | exact Loc.lift _ | exact Loc.guard _ | exact Loc.rd _ | exact Loc.opt _ | exact Loc.rdl _ | exact Loc.newB _ _ | exact Loc.treeLs _ | exact Loc.treeAs _ | exact Loc.treeEs _ | exact Loc.freeze _ | exact Loc.rdAll _ | exact Loc.reach _ _ _ | exact Loc.elemsOf _ | exact Loc.bring _ _ _ _ | refine Loc.bind ?_ fun _ => ?_ | refine Loc.cond ?_ ?_ | split | (dsimp only; done) | dsimp only)
theorem Loc.storeV (t : TypeId) (p x : V) : Loc (storeV P t p x) := by unfold Go.Proofs.YthhpdnlfhofanaaGreatDoor.storeV; (repeat' first | assumption | exact Loc.pure _ | exact Loc.pure' _ | exact Loc.fail | exact Loc.lift _ | exact Loc.guard _ | exact Loc.rd _ | exact Loc.opt _ | exact Loc.rdl _ | exact Loc.newB _ _ | exact Loc.treeLs _ | exact Loc.treeAs _ | exact Loc.treeEs _ | exact Loc.freeze _ | exact Loc.rdAll _ | exact Loc.reach _ _ _ | exact Loc.elemsOf _ | exact Loc.bring _ _ _ _ | refine Loc.bind ?_ fun _ => ?_ | refine Loc.cond ?_ ?_ | split | (dsimp only; done) | dsimp only)
theorem Loc.cloneV (site : Nat) (f : FuncId) (vs : List V) : Loc (cloneV P site f vs) := by unfold Go.Proofs.YthhpdnlfhofanaaGreatDoor.cloneV; (repeat' first | assumption | exact Loc.pure _ | exact Loc.pure' _ | exact Loc.fail | exact Loc.lift _ | exact Loc.guard _ | exact Loc.rd _ | exact Loc.opt _ | exact Loc.rdl _ | exact Loc.newB _ _ | exact Loc.treeLs _ | exact Loc.treeAs _ | exact Loc.treeEs _ | exact Loc.freeze _ | exact Loc.rdAll _ | exact Loc.reach _ _ _ | exact Loc.elemsOf _ | exact Loc.bring _ _ _ _ | refine Loc.bind ?_ fun _ => ?_ | refine Loc.cond ?_ ?_ | split | (dsimp only; done) | dsimp only)
theorem Loc.insV (site : Nat) (f : FuncId) (vs : List V) : Loc (insV P site f vs) := by unfold Go.Proofs.YthhpdnlfhofanaaGreatDoor.insV; (repeat' first | assumption | exact Loc.pure _ | exact Loc.pure' _ | exact Loc.fail | exact Loc.lift _ | exact Loc.guard _ | exact Loc.rd _ | exact Loc.opt _ | exact Loc.rdl _ | exact Loc.newB _ _ | exact Loc.treeLs _ | exact Loc.treeAs _ | exact Loc.treeEs _ | exact Loc.freeze _ | exact Loc.rdAll _ | exact Loc.reach _ _ _ | exact Loc.elemsOf _ | exact Loc.bring _ _ _ _ | refine Loc.bind ?_ fun _ => ?_ | refine Loc.cond ?_ ?_ | split | (dsimp only; done) | dsimp only)
theorem Loc.ownV (site : Nat) (f : FuncId) (vs : List V) : Loc (ownV P site f vs) := by
  unfold Go.Proofs.YthhpdnlfhofanaaGreatDoor.ownV
  exact Loc.cond (Loc.insV P site f vs) (Loc.cloneV P site f vs)
theorem Loc.callV (call : CallF) (site : Nat) (f : FuncId) (vs : List V) : Loc (callV P cfg call site f vs) := by
  unfold Go.Proofs.YthhpdnlfhofanaaGreatDoor.callV
  have h1 := Loc.selfV cfg.bld vs
  have h2 := Loc.bstrV cfg.bld vs
  have h3 := Loc.ownV P site f vs
  (repeat' first | assumption | exact Loc.pure _ | exact Loc.pure' _ | exact Loc.fail | exact Loc.lift _ | exact Loc.guard _ | exact Loc.rd _ | exact Loc.opt _ | exact Loc.rdl _ | exact Loc.newB _ _ | exact Loc.treeLs _ | exact Loc.treeAs _ | exact Loc.treeEs _ | exact Loc.freeze _ | exact Loc.rdAll _ | exact Loc.reach _ _ _ | exact Loc.elemsOf _ | exact Loc.bring _ _ _ _ | refine Loc.bind ?_ fun _ => ?_ | refine Loc.cond ?_ ?_ | split | (dsimp only; done) | dsimp only)
theorem Loc.builtinV (site : Nat) (b : Builtin) (ts : List TypeId) (vs : List V) : Loc (builtinV P site b ts vs) := by
  unfold Go.Proofs.YthhpdnlfhofanaaGreatDoor.builtinV
  have h1 := Loc.appendV
  have h2 := Loc.copyV
  (repeat' first | assumption | exact Loc.pure _ | exact Loc.pure' _ | exact Loc.fail | exact Loc.lift _ | exact Loc.guard _ | exact Loc.rd _ | exact Loc.opt _ | exact Loc.rdl _ | exact Loc.newB _ _ | exact Loc.treeLs _ | exact Loc.treeAs _ | exact Loc.treeEs _ | exact Loc.freeze _ | exact Loc.rdAll _ | exact Loc.reach _ _ _ | exact Loc.elemsOf _ | exact Loc.bring _ _ _ _ | refine Loc.bind ?_ fun _ => ?_ | refine Loc.cond ?_ ?_ | split | (dsimp only; done) | dsimp only)
  all_goals first | exact h1 .. | exact h2 ..
theorem Loc.indexAddrV (rw' : Option Nat) (t : TypeId) (x i : V) : Loc (indexAddrV P rw' t x i) := by unfold Go.Proofs.YthhpdnlfhofanaaGreatDoor.indexAddrV; (repeat' first | assumption | exact Loc.pure _ | exact Loc.pure' _ | exact Loc.fail | exact Loc.lift _ | exact Loc.guard _ | exact Loc.rd _ | exact Loc.opt _ | exact Loc.rdl _ | exact Loc.newB _ _ | exact Loc.treeLs _ | exact Loc.treeAs _ | exact Loc.treeEs _ | exact Loc.freeze _ | exact Loc.rdAll _ | exact Loc.reach _ _ _ | exact Loc.elemsOf _ | exact Loc.bring _ _ _ _ | refine Loc.bind ?_ fun _ => ?_ | refine Loc.cond ?_ ?_ | split | (dsimp only; done) | dsimp only)
theorem Loc.convV (s d : TypeId) (x : V) : Loc (convV P s d x) := by unfold Go.Proofs.YthhpdnlfhofanaaGreatDoor.convV; (repeat' first | assumption | exact Loc.pure _ | exact Loc.pure' _ | exact Loc.fail | exact Loc.lift _ | exact Loc.guard _ | exact Loc.rd _ | exact Loc.opt _ | exact Loc.rdl _ | exact Loc.newB _ _ | exact Loc.treeLs _ | exact Loc.treeAs _ | exact Loc.treeEs _ | exact Loc.freeze _ | exact Loc.rdAll _ | exact Loc.reach _ _ _ | exact Loc.elemsOf _ | exact Loc.bring _ _ _ _ | refine Loc.bind ?_ fun _ => ?_ | refine Loc.cond ?_ ?_ | split | (dsimp only; done) | dsimp only)
theorem Loc.evOp (call : CallF) (site : Nat) (ts : Tmps) (o : Oper) : Loc (evOp P cfg call site ts o) := by
  have h1 := Loc.loadV P
  have h2 := Loc.storeV P
  have h3 := Loc.callV P cfg call site
  have h4 := Loc.builtinV P site
  have h5 := Loc.indexAddrV P
  have h6 := Loc.convV P
  unfold Go.Proofs.YthhpdnlfhofanaaGreatDoor.evOp
  (repeat' first | assumption | exact Loc.pure _ | exact Loc.pure' _ | exact Loc.fail | exact Loc.lift _ | exact Loc.guard _ | exact Loc.rd _ | exact Loc.opt _ | exact Loc.rdl _ | exact Loc.newB _ _ | exact Loc.treeLs _ | exact Loc.treeAs _ | exact Loc.treeEs _ | exact Loc.freeze _ | exact Loc.rdAll _ | exact Loc.reach _ _ _ | exact Loc.elemsOf _ | exact Loc.bring _ _ _ _ | refine Loc.bind ?_ fun _ => ?_ | refine Loc.cond ?_ ?_ | split | (dsimp only; done) | dsimp only)
  all_goals first | exact h1 .. | exact h2 .. | exact h3 .. | exact h4 .. | exact h5 .. | exact h6 ..
end
/-- An operation looks at no slot but those of its operands. -/
theorem evArgs_congr {gl : Gl} {ts ts' : Tmps} : ∀ {xs : List Operand}, (∀ x ∈ xs, evalO gl ts' x = evalO gl ts x) → evArgs gl ts' xs = evArgs gl ts xs
  | [], _ => rfl
  | x :: t, h => by simp only [evArgs, h x (List.mem_cons_self ..), evArgs_congr (fun y hy => h y (List.mem_cons_of_mem _ hy))]
theorem evParts_congr {gl : Gl} {ts ts' : Tmps} : ∀ {xs : List (Nat × Operand)}, (∀ x ∈ xs, evalO gl ts' x.2 = evalO gl ts x.2) → evParts gl ts' xs = evParts gl ts xs
  | [], _ => rfl
  | (i, x) :: t, h => by simp only [evParts, h _ (List.mem_cons_self ..), evParts_congr (fun y hy => h y (List.mem_cons_of_mem _ hy))]
theorem evOp_congr {P : Program} {cfg : Cfg} {call : CallF} {site : Nat} {ts ts' : Tmps} {o : Oper} (h : ∀ x ∈ o.op.operands, evalO cfg.glob ts' x = evalO cfg.glob ts x) : evOp P cfg call site ts' o = evOp P cfg call site ts o := by
  have hargs : ∀ xs : Array Operand, (∀ x ∈ xs, evalO cfg.glob ts' x = evalO cfg.glob ts x) → evArgs cfg.glob ts' xs.toList = evArgs cfg.glob ts xs.toList := fun xs hx => evArgs_congr fun x hm => hx x (by simpa using hm)
  have hparts : ∀ xs : Array (Nat × Operand), (∀ x ∈ xs.map (·.2), evalO cfg.glob ts' x = evalO cfg.glob ts x) → evParts cfg.glob ts' xs.toList = evParts cfg.glob ts xs.toList := fun xs hx => evParts_congr fun x hm => hx x.2 (by simp only [Array.mem_map]; exact ⟨x, by simpa using hm, rfl⟩)
  obtain ⟨dst, op, type, pos, after, guard⟩ := o
  cases op <;> simp only [Op.operands] at h <;> simp only [evOp]
  case build t ps => rw [hparts ps (by simpa using h)]
  case buildSlice t n ps => rw [hparts ps (by simpa using h)]
  case slice t x lo hi mx => cases lo <;> cases hi <;> cases mx <;> simp_all [evOpt]
  case makeFunc fn first captured =>
    cases fn <;> simp only []
    rw [hargs first (fun x hx => h x (by simp [hx])), hargs captured (fun x hx => h x (by simp [hx]))]
  case call c =>
    obtain ⟨callee, args, argTypes⟩ := c
    simp only [Call.operands] at h
    have ha := hargs args (fun x hx => h x (by simp [hx]))
    cases callee <;> simp only [ha]
    case value f => rw [h f (by simp)]
  case next x b => cases b <;> simp_all
  all_goals (first | rfl | (simp_all; done))
end Go.Proofs.YthhpdnlfhofanaaGreatDoor
namespace Go.Proofs.YthhpdnlfhofanaaGreatDoor
open Go.RowKit
set_option linter.unusedVariables false
set_option linter.unusedSimpArgs false
/-- States with the same slots and blocks. -/
def StEq (s s' : St) : Prop := (∀ t, tget s.tmps t = tget s'.tmps t) ∧ ∀ i, hget s.heap i = hget s'.heap i
theorem StEq.refl (s : St) : StEq s s := ⟨fun _ => rfl, fun _ => rfl⟩
theorem StEq.trans {a b c : St} (h : StEq a b) (g : StEq b c) : StEq a c := ⟨fun t => (h.1 t).trans (g.1 t), fun i => (h.2 i).trans (g.2 i)⟩
theorem StEq.symm {a b : St} (h : StEq a b) : StEq b a := ⟨fun t => (h.1 t).symm, fun i => (h.2 i).symm⟩
theorem hget_app : ∀ (u h : Heap) (s : Nat), hget (u ++ h) s = (hget u s).or (hget h s)
  | [], h, s => by simp [hget]
  | (i, b) :: t, h, s => by
    rw [List.cons_append, hget_cons, hget_cons, hget_app t h s]
    by_cases e : i = s <;> simp [e]
theorem hget_out : ∀ {u : Heap} {s : Nat}, s ∉ u.map (·.1) → hget u s = none
  | [], _, _ => rfl
  | (i, b) :: t, s, h => by
    simp only [List.map_cons, List.mem_cons, not_or] at h
    rw [hget_cons, if_neg (fun e => h.1 e.symm), hget_out h.2]
theorem tget_put (d : Option Tmp) (v : V) (ts : Tmps) (t : Nat) : tget (putT d v ts) t = if d = some t then some v else tget ts t := by
  cases d with
  | none => rfl
  | some d =>
    simp only [putT, tget_cons, Option.some.injEq]
theorem meets_spec {a b : List Nat} (h : meets a b = false) : ∀ s ∈ a, s ∉ b := by
  intro s hs hb
  unfold meets at h
  have := List.any_eq_false.1 h s hs
  exact this (has_iff.2 hb)
theorem inD_spec {d : Option Nat} {l : List Nat} (h : inD d l = false) : ∀ t ∈ l, d ≠ some t := by
  intro t ht e
  subst e
  simp [inD, has_iff.2 ht] at h
theorem sameD_spec {d e : Option Nat} (h : sameD d e = false) : ∀ t, ¬ (d = some t ∧ e = some t) := by
  rintro t ⟨rfl, rfl⟩
  unfold sameD at h
  simp at h
theorem clash_spec {f g : Foot} (h : clash f g = false) : (softly f g = true ∨ ((∀ s ∈ f.wr, s ∉ g.rd) ∧ (∀ s ∈ f.wr, s ∉ g.wr) ∧ (∀ s ∈ g.wr, s ∉ f.rd))) ∧ (∀ t ∈ g.look, f.dst ≠ some t) ∧ (∀ t ∈ f.look, g.dst ≠ some t) ∧ ∀ t, ¬ (f.dst = some t ∧ g.dst = some t) := by
  unfold clash at h
  simp only [Bool.or_eq_false_iff] at h
  obtain ⟨⟨⟨h0, h4⟩, h5⟩, h6⟩ := h
  refine ⟨?_, inD_spec h4, inD_spec h5, sameD_spec h6⟩
  cases hs : softly f g with
  | true => exact .inl rfl
  | false =>
    rw [hs] at h0
    simp only [cond_false, Bool.or_eq_false_iff] at h0
    obtain ⟨⟨h1, h2⟩, h3⟩ := h0
    exact .inr ⟨meets_spec h1, meets_spec h2, meets_spec h3⟩
section
variable {P : Program} {cfg : Cfg} {call : CallF} {id : Nat} {ops : List Oper}
theorem wanted_congr {o : Oper} {ts ts' : Tmps} (h : ∀ t ∈ looks ops o, tget ts' t = tget ts t) : wantedV ops ts' o = wantedV ops ts o := by
  unfold wantedV
  cases hg : o.guard with
  | none => rfl
  | some g =>
    obtain ⟨j, want⟩ := g
    simp only
    cases hd : (ops[j]?).bind (·.dst) with
    | none => rfl
    | some d =>
      simp only
      rw [h d (by unfold looks; rw [hg]; simp only [hd]; simp)]
/-- An operation at a state that is the same where it looks. -/
theorem evIx_local {i : Nat} {o : Oper} {st st1 : St} {f : Foot} (e : evIx P cfg call id ops i o st = some (st1, f)) :
    f.dst = o.dst ∧ ∃ v u, f.wr = u.map (·.1) ∧ st1 = ⟨putT o.dst v st.tmps, u ++ st.heap⟩ ∧
      ∀ st' : St, (∀ t ∈ f.look, tget st'.tmps t = tget st.tmps t) → (∀ s ∈ f.rd, hget st'.heap s = hget st.heap s) → evIx P cfg call id ops i o st' = some (⟨putT o.dst v st'.tmps, u ++ st'.heap⟩, f) := by
  unfold evIx at e
  split at e
  · cases e
  · rename_i hw
    injection e with e
    injection e with e1 e2
    subst e1 e2
    refine ⟨rfl, .tup [], [], rfl, rfl, fun st' ht hh => ?_⟩
    unfold evIx
    rw [wanted_congr ht, hw]
    rfl
  · rename_i hw
    split at e
    · cases e
    · rename_i v u r he
      injection e with e
      injection e with e1 e2
      subst e1 e2
      refine ⟨rfl, v, u, rfl, rfl, fun st' ht hh => ?_⟩
      unfold evIx
      rw [wanted_congr ht, hw]
      simp only
      have hop : evOp P cfg call (1000 + (id * 256 + i) * 8) st'.tmps o = evOp P cfg call (1000 + (id * 256 + i) * 8) st.tmps o := by
        refine evOp_congr fun x hx => ?_
        cases x with
        | tmp t => exact ht t (List.mem_append_left _ (List.mem_filterMap.2 ⟨.tmp t, by simpa using hx, rfl⟩))
        | _ => rfl
      rw [hop, (Loc.evOp P cfg call _ _ _).run he fun s hs => (hh s hs).symm]
theorem evIx_congr {i : Nat} {o : Oper} {st st1 st' : St} {f : Foot} (e : evIx P cfg call id ops i o st = some (st1, f)) (h : StEq st st') : ∃ st1', evIx P cfg call id ops i o st' = some (st1', f) ∧ StEq st1 st1' := by
  obtain ⟨_, v, u, _, rfl, hl⟩ := evIx_local e
  refine ⟨_, hl st' (fun t _ => (h.1 t).symm) (fun s _ => (h.2 s).symm), fun t => ?_, fun s => ?_⟩
  · simp only [tget_put, h.1 t]
  · simp only [hget_app, h.2 s]
theorem keyV_eqT : ∀ (n : Nat) (t : TypeId) (a b : V), keyV P n t a = true → keyV P n t b = true → ∃ r, eqT P n t a b = some r
  | 0, t, a, b, h, _ => by cases h
  | n + 1, t, a, b, h, g => by
    unfold keyV at h g
    unfold eqT
    cases hu : P.underlying t with
    | none => simp [hu] at h
    | some d =>
      rw [hu] at h g
      cases d <;> cases a <;> (try (simp at h; done)) <;> cases b <;> (try (simp at g; done))
      · exact ⟨_, rfl⟩
      · have h1 := of_decide_eq_true h
        have h2 := of_decide_eq_true g
        rename_i k x k' y
        subst h1; subst h2
        exact ⟨decide (x = y), by simp⟩
      · exact ⟨_, rfl⟩
      · rename_i fs cs ds
        have h1 := (Bool.and_eq_true .. ▸ h : _ ∧ _)
        have g1 := (Bool.and_eq_true .. ▸ g : _ ∧ _)
        have hst : P.stoodInHeld t = false := by simpa using h1.1
        have key : ∀ l : List Field, (l.all fun f => match partT P f.type cs f.offset with
            | some v => keyV P n f.type v
            | none => false) = true → (l.all fun f => match partT P f.type ds f.offset with
            | some v => keyV P n f.type v
            | none => false) = true → ∃ r, eqFs P (eqT P n) cs ds l = some r := by
          intro l
          induction l with
          | nil => exact fun _ _ => ⟨true, rfl⟩
          | cons f l ih =>
            intro a1 a2
            simp only [List.all_cons, Bool.and_eq_true] at a1 a2
            obtain ⟨r, hr⟩ := ih a1.2 a2.2
            unfold eqFs
            cases hn : f.name == "_" with
            | true => exact ⟨r, by simpa using hr⟩
            | false =>
              obtain ⟨b1, b2⟩ := a1
              obtain ⟨d1, d2⟩ := a2
              split at b1
              · rename_i v hv
                split at d1
                · rename_i v' hv'
                  obtain ⟨q, hq⟩ := keyV_eqT n f.type v v' b1 d1
                  exact ⟨q && r, by simp only [cond_false, hv, hv', hq, hr]⟩
                · cases d1
              · cases b1
        obtain ⟨r, hr⟩ := key fs.toList h1.2 g1.2
        exact ⟨r, by simp only [hst, cond_false]; exact hr⟩
theorem findM_app {kt : TypeId} {k k' z : V} : ∀ {es : List (List V)} {i : Nat} {r : Option (Nat × V)}, findM P kt k es i = some r → (∃ b, eqT P 100 kt k k' = some b) →
    ∃ r', findM P kt k (es ++ [[k', z]]) i = some r' ∧ (r = none ∧ (r' = none ∨ ∃ j, r' = some (j, z)) ∨ ∃ j v, r = some (j, v) ∧ r' = some (j, v))
  | [], i, r, e, ⟨b, hb⟩ => by
    simp only [findM, Option.some.injEq] at e
    subst e
    rw [List.nil_append, findM_cons, hb]
    cases b with
    | true => exact ⟨_, rfl, .inl ⟨rfl, .inr ⟨_, rfl⟩⟩⟩
    | false => exact ⟨_, rfl, .inl ⟨rfl, .inl rfl⟩⟩
  | c :: es, i, r, e, hb => by
    unfold findM at e
    split at e
    · rename_i q; cases q
    · rename_i k2 v2 t q
      injection q with q1 q2
      subst q1 q2
      rw [List.cons_append, findM_cons]
      cases hq : eqT P 100 kt k k2 with
      | none => rw [hq] at e; cases e
      | some b =>
        rw [hq] at e
        cases b with
        | true =>
          simp only [Option.some.injEq] at e
          subst e
          exact ⟨_, rfl, .inr ⟨_, _, rfl, rfl⟩⟩
        | false => exact findM_app e hb
    · cases e
theorem lookupV_app {kt et : TypeId} {k k' z v : V} {es : List (List V)} (hz : zeroT P et = some z) (e : lookupV P kt et k false es = some v) (hb : ∃ b, eqT P 100 kt k k' = some b) : lookupV P kt et k false (es ++ [[k', z]]) = some v := by
  unfold lookupV at e
  rw [hz] at e
  split at e
  · rename_i z' hf hz'
    injection hz' with hz'; subst hz'
    injection e with e
    obtain ⟨r', h1, h2⟩ := findM_app (z := z) hf hb
    rcases h2 with ⟨_, rfl | ⟨j, rfl⟩⟩ | ⟨j, v', h3, _⟩
    · simp only [lookupV, h1, hz]; rw [← e]
    · simp only [lookupV, h1, hz]; rw [← e]; rfl
    · cases h3
  · rename_i j v' z' hf hz'
    injection e with e
    obtain ⟨r', h1, h2⟩ := findM_app (z := z) hf hb
    rcases h2 with ⟨h3, _⟩ | ⟨j, v', h3, rfl⟩
    · cases h3
    · injection h3 with h3; injection h3 with h3 h4
      subst h3; subst h4
      simp only [lookupV, h1, hz]; rw [← e]
  · cases e
theorem evIx_op {i : Nat} {o : Oper} {st st1 : St} {f : Foot} (e : evIx P cfg call id ops i o st = some (st1, f)) (hs : f.soft ≠ 0) :
    wantedV ops st.tmps o = some true ∧ f.soft = softOf o.op ∧ ∃ v u r, evOp P cfg call (1000 + (id * 256 + i) * 8) st.tmps o st.heap = some ((v, u), r) ∧ st1 = ⟨putT o.dst v st.tmps, u ++ st.heap⟩ ∧ f = ⟨r, u.map (·.1), looks ops o, o.dst, softOf o.op⟩ := by
  unfold evIx at e
  split at e
  · cases e
  · injection e with e
    injection e with e1 e2
    subst e2
    exact absurd rfl hs
  · rename_i hw
    split at e
    · cases e
    · rename_i v u r he
      injection e with e
      injection e with e1 e2
      subst e1 e2
      exact ⟨hw, rfl, v, u, r, he, rfl, rfl⟩
theorem M.of_bind0 {α β : Type} {h : Heap} {x : M α} {f : α → M β} {a : α} {b : β} {r1 r2 : List Nat} (h1 : x h = some (a, r1)) (h2 : f a h = some (b, r2)) : (x >>= f) h = some (b, r1 ++ r2) := by
  show M.bind x f h = _
  unfold M.bind
  rw [h1]
  simp only
  rw [h2]
theorem rdl_of0 {h : Heap} {s : Nat} {b : Bk} (e : hget h s = some b) (hl : b.live = true) : rdl s h = some (b, [s]) := by
  unfold rdl
  refine M.of_bind0 (a := some b) (r1 := [s]) (r2 := []) ?_ ?_
  · show some (hget h s, [s]) = _
    rw [e]
  · simp only [hl, cond_true]; rfl
theorem evIx_soft {k i : Nat} {ok oi : Oper} {st s1 s2 : St} {fk fi : Foot} (ek : evIx P cfg call id ops k ok st = some (s1, fk)) (ei : evIx P cfg call id ops i oi s1 = some (s2, fi)) (hsf : softly fk fi = true)
    (c4 : ∀ t ∈ fi.look, fk.dst ≠ some t) (c5 : ∀ t ∈ fk.look, fi.dst ≠ some t) (c6 : ∀ t, ¬ (fk.dst = some t ∧ fi.dst = some t)) :
    ∃ t1 t2, evIx P cfg call id ops i oi st = some (t1, fi) ∧ evIx P cfg call id ops k ok t1 = some (t2, fk) ∧ StEq s2 t2 := by
  unfold softly at hsf
  simp only [Bool.and_eq_true, Nat.beq_eq] at hsf
  obtain ⟨hk1, hi1⟩ := hsf
  obtain ⟨hwk, hsk, vk, uk, rk, ok1, rfl, rfl⟩ := evIx_op ek (by omega)
  obtain ⟨hwi, hsi, vi, ui, ri, oi1, rfl, rfl⟩ := evIx_op ei (by omega)
  obtain ⟨dstk, opk, typek, posk, afterk, guardk⟩ := ok
  obtain ⟨dsti, opi, typei, posi, afteri, guardi⟩ := oi
  simp only at hk1 hi1 hsk hsi c4 c5 c6
  -- a lookup
  have odd : ∀ q : Nat, (2 * q + 2) % 2 ≠ 1 := fun q => by omega
  have two : ∀ a b : Nat, 2 * a + 1 ≠ 2 * b + 1 + 1 := fun a b => by omega
  have zer : ∀ b : Nat, 0 ≠ 2 * b + 1 + 1 := fun b => by omega
  have inj : ∀ a b : Nat, 2 * a + 2 = 2 * b + 1 + 1 → a = b := fun a b h => by omega
  obtain ⟨t, x, y, rfl⟩ : ∃ t x y, opk = .lookup t x y false := by
    clear ek ei hsi hwk hwi ok1 oi1 c4 c5 c6 hi1
    cases opk
    case lookup t x y b =>
      cases b
      · exact ⟨t, x, y, rfl⟩
      · exact absurd (show (0 : Nat) % 2 = 1 from hk1) (by decide)
    case mapEntry t x y => exact absurd hk1 (odd t)
    all_goals exact absurd (show (0 : Nat) % 2 = 1 from hk1) (by decide)
  have hi2 : softOf opi = 2 * t + 1 + 1 := hi1
  obtain ⟨x', y', rfl⟩ : ∃ x' y', opi = .mapEntry t x' y' := by
    clear ek ei hsi hwk hwi ok1 oi1 c4 c5 c6 hi1
    cases opi
    case lookup t' a b c =>
      cases c
      · exact absurd hi2 (two t' t)
      · exact absurd hi2 (zer t)
    case mapEntry t' a b =>
      obtain rfl : t' = t := inj t' t hi2
      exact ⟨_, _, rfl⟩
    all_goals exact absurd hi2 (zer t)
  -- what they read
  have hopi : evOp P cfg call (1000 + (id * 256 + i) * 8) (putT dstk vk st.tmps) ⟨dsti, .mapEntry t x' y', typei, posi, afteri, guardi⟩ = evOp P cfg call (1000 + (id * 256 + i) * 8) st.tmps ⟨dsti, .mapEntry t x' y', typei, posi, afteri, guardi⟩ := by
    refine evOp_congr fun o ho => ?_
    cases o with
    | tmp q =>
      have := c4 q (List.mem_append_left _ (List.mem_filterMap.2 ⟨.tmp q, by simpa using ho, rfl⟩))
      simp only [evalO, tget_put, if_neg this]
    | _ => rfl
  have hwi' : wantedV ops st.tmps ⟨dsti, .mapEntry t x' y', typei, posi, afteri, guardi⟩ = some true := by
    rw [← hwi]
    exact wanted_congr fun q hq => by simp only [tget_put, if_neg (c4 q hq)]
  have hopk : ∀ v, evOp P cfg call (1000 + (id * 256 + k) * 8) (putT dsti v st.tmps) ⟨dstk, .lookup t x y false, typek, posk, afterk, guardk⟩ = evOp P cfg call (1000 + (id * 256 + k) * 8) st.tmps ⟨dstk, .lookup t x y false, typek, posk, afterk, guardk⟩ := by
    intro v
    refine evOp_congr fun o ho => ?_
    cases o with
    | tmp q =>
      have := c5 q (List.mem_append_left _ (List.mem_filterMap.2 ⟨.tmp q, by simpa using ho, rfl⟩))
      simp only [evalO, tget_put, if_neg this]
    | _ => rfl
  have hwk' : ∀ v, wantedV ops (putT dsti v st.tmps) ⟨dstk, .lookup t x y false, typek, posk, afterk, guardk⟩ = some true := by
    intro v
    rw [← hwk]
    exact wanted_congr fun q hq => by simp only [tget_put, if_neg (c5 q hq)]
  simp only at oi1
  rw [hopi] at oi1
  have ok0 := ok1
  have oi0 := oi1
  -- what they do
  simp only [evOp] at ok1 oi1
  obtain ⟨X, r1, r2, e1, e2, q1⟩ := M.inv_bind ok1
  obtain ⟨hX, e1r⟩ := M.inv_lift e1
  obtain ⟨Y, r3, r4, e3, e4, q2⟩ := M.inv_bind e2
  obtain ⟨hY, e3r⟩ := M.inv_lift e3
  obtain ⟨X', p1, p2, g1, g2, q5⟩ := M.inv_bind oi1
  obtain ⟨hX', g1r⟩ := M.inv_lift g1
  obtain ⟨Y', p3, p4, g3, g4, q6⟩ := M.inv_bind g2
  obtain ⟨hY', g3r⟩ := M.inv_lift g3
  generalize hu : P.underlying t = d at e4 g4
  split at e4
  · rename_i kt et s
    obtain ⟨b, r5, r6, e5, e6, q3⟩ := M.inv_bind e4
    obtain ⟨hb, hbl, e5r⟩ := M.inv_rdl e5
    obtain ⟨_, r7, r8, e7, e8, q4⟩ := M.inv_bind e6
    obtain ⟨hkv, e7r⟩ := M.inv_guard e7
    obtain ⟨hlv, huk, e8r⟩ := inv_opt e8
    simp only at hlv huk
    subst huk
    obtain ⟨s', rfl⟩ : ∃ s', X' = .map s' := by
      cases X' <;> first | exact ⟨_, rfl⟩ | cases g4
    dsimp only at g4
    · skip
      obtain ⟨b', p5, p6, g5, g6, q7⟩ := M.inv_bind g4
      obtain ⟨hb', hbl', _⟩ := M.inv_rdl g5
      obtain ⟨_, p7, p8, g7, g8, q8⟩ := M.inv_bind g6
      obtain ⟨hg, _⟩ := M.inv_guard g7
      simp only [Bool.and_eq_true] at hg
      obtain ⟨⟨hw', hkv'⟩, hkt'⟩ := hg
      generalize hf : findM P kt Y' b'.elems 0 = fm at g8
      generalize hz : zeroT P et = zm at g8
      split at g8
      · rename_i z
        obtain ⟨_, p9, p10, g9, g10, q9⟩ := M.inv_bind g8
        obtain ⟨hp, _⟩ := M.inv_pure g10
        injection hp with hp1 hp2
        subst hp2
        obtain ⟨b2, hb2, hbl2, hlv2⟩ : ∃ b2, hget ([(s', { b' with elems := b'.elems ++ [[Y', z]] })] ++ st.heap) s = some b2 ∧ b2.live = true ∧ lookupV P kt et Y false b2.elems = some vk := by
          by_cases hs : s' = s
          · subst hs
            have hb' : hget st.heap s' = some b' := hb'
            rw [hb] at hb'
            injection hb' with hb'
            subst hb'
            refine ⟨{ b with elems := b.elems ++ [[Y', z]] }, by rw [List.singleton_append, hget_cons, if_pos rfl], hbl, ?_⟩
            exact lookupV_app hz hlv (keyV_eqT 100 kt Y Y' hkv hkv')
          · exact ⟨b, by rw [List.singleton_append, hget_cons, if_neg hs]; exact hb, hbl, hlv⟩
        have hrun : evOp P cfg call (1000 + (id * 256 + k) * 8) st.tmps ⟨dstk, .lookup t x y false, typek, posk, afterk, guardk⟩ ([(s', { b' with elems := b'.elems ++ [[Y', z]] })] ++ st.heap) = some ((vk, []), rk) := by
          rw [q1, q2, q3, q4, e1r, e3r, e5r, e7r, e8r]
          simp only [evOp]
          refine M.of_bind0 (r1 := []) (by rw [hX]; rfl) ?_
          refine M.of_bind0 (r1 := []) (by rw [hY]; rfl) ?_
          simp only [hu]
          refine M.of_bind0 (rdl_of0 hb2 hbl2) ?_
          refine M.of_bind0 (r1 := []) (by rw [hkv]; rfl) ?_
          rw [hlv2]
          rfl
        refine ⟨⟨putT dsti vi st.tmps, [(s', { b' with elems := b'.elems ++ [[Y', z]] })] ++ st.heap⟩, ⟨putT dstk vk (putT dsti vi st.tmps), [] ++ ([(s', { b' with elems := b'.elems ++ [[Y', z]] })] ++ st.heap)⟩, ?_, ?_, fun q => ?_, fun q => ?_⟩
        · unfold evIx
          rw [hwi']
          simp only
          have oi0' : evOp P cfg call (1000 + (id * 256 + i) * 8) st.tmps ⟨dsti, .mapEntry t x' y', typei, posi, afteri, guardi⟩ st.heap = _ := oi0
          rw [oi0']
        · unfold evIx
          simp only
          rw [hwk' vi]
          simp only
          rw [hopk vi, hrun]
        · simp only [tget_put]
          by_cases h1 : dsti = some q
          · rw [if_pos h1, if_neg (fun h => c6 q ⟨h, h1⟩), if_pos h1]
          · rw [if_neg h1]
            by_cases h2 : dstk = some q <;> simp [h1, h2]
        · simp
      · cases g8
  · cases e4
theorem evIx_swap {k i : Nat} {ok oi : Oper} {st s1 s2 : St} {fk fi : Foot} (ek : evIx P cfg call id ops k ok st = some (s1, fk)) (ei : evIx P cfg call id ops i oi s1 = some (s2, fi)) (hc : clash fk fi = false) :
    ∃ t1 t2, evIx P cfg call id ops i oi st = some (t1, fi) ∧ evIx P cfg call id ops k ok t1 = some (t2, fk) ∧ StEq s2 t2 := by
  have ek0 := ek
  have ei0 := ei
  obtain ⟨hdk, vk, uk, hwk, rfl, hlk⟩ := evIx_local ek
  obtain ⟨hdi, vi, ui, hwi, rfl, hli⟩ := evIx_local ei
  obtain ⟨c0, c4, c5, c6⟩ := clash_spec hc
  rcases c0 with c0 | ⟨c1, c2, c3⟩
  · exact evIx_soft ek0 ei0 c0 c4 c5 c6
  rw [hdk] at c4 c6
  rw [hdi] at c5 c6
  rw [hwk] at c1 c2
  rw [hwi] at c2 c3
  refine ⟨_, _, hli st (fun t ht => ?_) (fun s hs => ?_), hlk _ (fun t ht => ?_) (fun s hs => ?_), fun t => ?_, fun s => ?_⟩
  · simp only [tget_put, if_neg (c4 t ht)]
  · simp only [hget_app, hget_out (fun h => c1 s h hs), Option.none_or]
  · simp only [tget_put, if_neg (c5 t ht)]
  · simp only [hget_app, hget_out (fun h => c3 s h hs), Option.none_or]
  · simp only [tget_put]
    by_cases h1 : oi.dst = some t
    · rw [if_pos h1, if_neg (fun h => c6 t ⟨h, h1⟩), if_pos h1]
    · rw [if_neg h1]
      by_cases h2 : ok.dst = some t <;> simp [h1, h2]
  · simp only [hget_app]
    by_cases h1 : s ∈ uk.map (·.1)
    · rw [hget_out (c2 s h1)]
      simp
    · rw [hget_out h1]
      simp
/-- Some operations, one after the other. -/
def runL (P : Program) (cfg : Cfg) (call : CallF) (id : Nat) (ops : List Oper) : List Nat → St → Option (St × List (Nat × Foot))
  | [], st => some (st, [])
  | i :: t, st =>
    match ops[i]? with
    | none => none
    | some o => match evIx P cfg call id ops i o st with
      | none => none
      | some (st, f) => match runL P cfg call id ops t st with
        | none => none
        | some (st, fs) => some (st, (i, f) :: fs)
theorem runL_cons {i : Nat} {t : List Nat} {st r : St} {fs : List (Nat × Foot)} (e : runL P cfg call id ops (i :: t) st = some (r, fs)) :
    ∃ o s1 f fs', ops[i]? = some o ∧ evIx P cfg call id ops i o st = some (s1, f) ∧ runL P cfg call id ops t s1 = some (r, fs') ∧ fs = (i, f) :: fs' := by
  simp only [runL] at e
  cases ho : ops[i]? with
  | none => simp only [ho] at e; cases e
  | some o =>
    simp only [ho] at e
    cases h1 : evIx P cfg call id ops i o st with
    | none => simp only [h1] at e; cases e
    | some q =>
      obtain ⟨s1, f⟩ := q
      simp only [h1] at e
      cases h2 : runL P cfg call id ops t s1 with
      | none => simp only [h2] at e; cases e
      | some q2 =>
        obtain ⟨s2, fs2⟩ := q2
        simp only [h2, Option.some.injEq, Prod.mk.injEq] at e
        obtain ⟨rfl, rfl⟩ := e
        exact ⟨o, s1, f, fs2, rfl, h1, h2, rfl⟩
theorem runL_of {i : Nat} {t : List Nat} {st s1 r : St} {o : Oper} {f : Foot} {fs : List (Nat × Foot)} (h1 : ops[i]? = some o) (h2 : evIx P cfg call id ops i o st = some (s1, f)) (h3 : runL P cfg call id ops t s1 = some (r, fs)) :
    runL P cfg call id ops (i :: t) st = some (r, (i, f) :: fs) := by
  simp only [runL, h1, h2, h3]
theorem runL_congr : ∀ {l : List Nat} {st st' r : St} {fs : List (Nat × Foot)}, runL P cfg call id ops l st = some (r, fs) → StEq st st' → ∃ r', runL P cfg call id ops l st' = some (r', fs) ∧ StEq r r'
  | [], st, st', r, fs, e, h => by
    simp only [runL, Option.some.injEq, Prod.mk.injEq] at e
    obtain ⟨rfl, rfl⟩ := e
    exact ⟨st', rfl, h⟩
  | i :: t, st, st', r, fs, e, h => by
    obtain ⟨o, s1, f, fs', ho, e1, e2, rfl⟩ := runL_cons e
    obtain ⟨s1', e1', h1⟩ := evIx_congr e1 h
    obtain ⟨r', e2', h2⟩ := runL_congr e2 h1
    exact ⟨r', runL_of ho e1' e2', h2⟩
theorem runL_fst : ∀ {l : List Nat} {st r : St} {fs : List (Nat × Foot)}, runL P cfg call id ops l st = some (r, fs) → fs.map (·.1) = l
  | [], st, r, fs, e => by
    simp only [runL, Option.some.injEq, Prod.mk.injEq] at e
    obtain ⟨rfl, rfl⟩ := e
    rfl
  | i :: t, st, r, fs, e => by
    obtain ⟨o, s1, f, fs', ho, e1, e2, rfl⟩ := runL_cons e
    simp [runL_fst e2]
/-- One operation ahead of those that come before it and do not clash with it. -/
theorem runL_move {i : Nat} {l2 : List Nat} : ∀ {l1 : List Nat} {st r : St} {fs : List (Nat × Foot)}, runL P cfg call id ops (l1 ++ i :: l2) st = some (r, fs) →
    ∃ fs1 fi fs2, fs = fs1 ++ (i, fi) :: fs2 ∧ fs1.map (·.1) = l1 ∧ ((∀ x ∈ fs1, clash x.2 fi = false) → ∃ o s1 r', ops[i]? = some o ∧ evIx P cfg call id ops i o st = some (s1, fi) ∧ runL P cfg call id ops (l1 ++ l2) s1 = some (r', fs1 ++ fs2) ∧ StEq r r')
  | [], st, r, fs, e => by
    obtain ⟨o, s1, f, fs', ho, e1, e2, rfl⟩ := runL_cons e
    exact ⟨[], f, fs', rfl, rfl, fun _ => ⟨o, s1, r, ho, e1, e2, StEq.refl _⟩⟩
  | k :: l1, st, r, fs, e => by
    obtain ⟨ok, s1, fk, fs', hok, e1, e2, rfl⟩ := runL_cons e
    obtain ⟨fs1, fi, fs2, rfl, hl, hh⟩ := runL_move e2
    refine ⟨(k, fk) :: fs1, fi, fs2, rfl, by simp [hl], fun hc => ?_⟩
    obtain ⟨oi, s2, r', hoi, e3, e4, hr⟩ := hh fun x hx => hc x (List.mem_cons_of_mem _ hx)
    obtain ⟨t1, t2, e5, e6, hst⟩ := evIx_swap e1 e3 (hc (k, fk) (List.mem_cons_self ..))
    obtain ⟨r'', e7, hr'⟩ := runL_congr e4 hst
    exact ⟨oi, t1, r'', hoi, e5, runL_of hok e6 e7, hr.trans hr'⟩
theorem evOps_runL : ∀ {rest : List Oper} {i : Nat} {st r : St} {fs : List Foot}, evOps P cfg call id ops i rest st = some (r, fs) → (∀ k, rest[k]? = ops[i + k]?) →
    ∃ fs', runL P cfg call id ops (List.range' i rest.length) st = some (r, fs') ∧ fs'.map (·.2) = fs
  | [], i, st, r, fs, e, _ => by
    simp only [evOps, Option.some.injEq, Prod.mk.injEq] at e
    obtain ⟨rfl, rfl⟩ := e
    exact ⟨[], rfl, rfl⟩
  | o :: rest, i, st, r, fs, e, hr => by
    simp only [evOps] at e
    cases he : evIx P cfg call id ops i o st with
    | none => rw [he] at e; cases e
    | some q =>
      obtain ⟨st1, f1⟩ := q
      rw [he] at e
      simp only at e
      cases he2 : evOps P cfg call id ops (i + 1) rest st1 with
      | none => rw [he2] at e; cases e
      | some q2 =>
        obtain ⟨st2, f2⟩ := q2
        rw [he2] at e
        simp only [Option.some.injEq, Prod.mk.injEq] at e
        obtain ⟨rfl, rfl⟩ := e
        have ho : ops[i]? = some o := by have := hr 0; simpa using this.symm
        obtain ⟨fs', h1, h2⟩ := evOps_runL he2 fun k => by have := hr (k + 1); rw [show i + 1 + k = i + (k + 1) by omega]; simpa using this
        refine ⟨(i, f1) :: fs', ?_, by simp [h2]⟩
        rw [List.length_cons, List.range'_succ]
        exact runL_of ho he h1
end
/-- The places that a number's bits name. -/
def maskL (m : Nat) : List Nat := (List.range m).filter fun k => m.testBit k
theorem mem_maskL {m k : Nat} : k ∈ maskL m ↔ m.testBit k = true := by
  simp only [maskL, List.mem_filter, List.mem_range]
  refine ⟨fun h => h.2, fun h => ⟨?_, h⟩⟩
  have h1 := Nat.ge_two_pow_of_testBit h
  have h2 : k < 2 ^ k := Nat.lt_two_pow_self
  omega
theorem clear1_spec {ps : Nat} {g : Foot} : ∀ {l : List Foot} {i : Nat}, clear1 ps g i l = true → ∀ (p : Nat) f, l[p]? = some f → i + p ∈ maskL ps ∨ clash f g = false
  | [], i, h, p, f, hf => by simp at hf
  | a :: t, i, h, p, f, hf => by
    simp only [clear1, Bool.and_eq_true, Bool.or_eq_true, Bool.not_eq_true'] at h
    cases p with
    | zero =>
      simp only [List.getElem?_cons_zero, Option.some.injEq] at hf
      subst hf
      exact h.1.imp (fun h => mem_maskL.2 h) id
    | succ p =>
      have := clear1_spec h.2 p f (by simpa using hf)
      rwa [show i + 1 + p = i + (p + 1) by omega] at this
theorem clearAll_spec {pss : List Nat} : ∀ {fs before : List Foot}, clearAll pss before fs = true → ∀ (q : Nat) g, fs[q]? = some g → ∀ (p : Nat) f, p < before.length + q → (before ++ fs)[p]? = some f → p ∈ maskL ((pss[before.length + q]?).getD 0) ∨ clash f g = false
  | [], before, h, q, g, hg, p, f, hp, hf => by simp at hg
  | a :: t, before, h, q, g, hg, p, f, hp, hf => by
    simp only [clearAll, Bool.and_eq_true] at h
    cases q with
    | zero =>
      simp only [List.getElem?_cons_zero, Option.some.injEq] at hg
      subst hg
      rw [List.getElem?_append_left (by omega)] at hf
      have := clear1_spec h.1 p f hf
      simpa using this
    | succ q =>
      have := clearAll_spec h.2 q g (by simpa using hg) p f (by simp; omega) (by simpa using hf)
      simp only [List.length_append, List.length_singleton] at this
      rwa [show before.length + 1 + q = before.length + (q + 1) by omega] at this
theorem backs_spec : ∀ {l : List Oper} {i : Nat}, backs i l = true → ∀ (j : Nat) o, l[j]? = some o → ∀ e ∈ o.after, Region.binds .any e = true → e.on < i + j
  | [], i, h, j, o, ho, e, he, hb => by simp at ho
  | a :: t, i, h, j, o, ho, e, he, hb => by
    simp only [backs, Bool.and_eq_true] at h
    cases j with
    | zero =>
      simp only [List.getElem?_cons_zero, Option.some.injEq] at ho
      subst ho
      have := List.all_eq_true.1 h.1 e (by simpa using he)
      simp only [hb, Bool.not_true, Bool.false_or] at this
      exact Nat.le_of_ble_eq_true this
    | succ j =>
      have := backs_spec h.2 j o (by simpa using ho) e he hb
      omega
theorem predsOf_spec {acc : List Nat} : ∀ {es : List Edge} {k : Nat}, k ∈ maskL (predsOf acc es) → ∃ e ∈ es, Region.binds .any e = true ∧ (k = e.on ∨ k ∈ maskL ((acc[e.on]?).getD 0))
  | [], k, h => by simp [predsOf, mem_maskL] at h
  | e :: t, k, h => by
    simp only [predsOf] at h
    cases hb : Region.binds .any e with
    | true =>
      simp only [hb, cond_true] at h
      rw [mem_maskL] at h
      have h : ((2 ^ e.on ||| (acc[e.on]?).getD 0) ||| predsOf acc t).testBit k = true := h
      rw [Nat.testBit_or, Nat.testBit_or, Bool.or_eq_true, Bool.or_eq_true] at h
      rcases h with (h | h) | h
      · rw [Nat.testBit_two_pow] at h
        exact ⟨e, List.mem_cons_self .., hb, .inl (of_decide_eq_true h).symm⟩
      · exact ⟨e, List.mem_cons_self .., hb, .inr (mem_maskL.2 h)⟩
      · obtain ⟨e', he', h'⟩ := predsOf_spec (mem_maskL.2 h)
        exact ⟨e', List.mem_cons_of_mem _ he', h'⟩
    | false =>
      simp only [hb, cond_false] at h
      obtain ⟨e', he', h'⟩ := predsOf_spec h
      exact ⟨e', List.mem_cons_of_mem _ he', h'⟩
theorem preds_keep : ∀ {l : List Oper} {acc : List Nat} {k : Nat}, k < acc.length → (preds acc l)[k]? = acc[k]?
  | [], acc, k, h => rfl
  | o :: t, acc, k, h => by
    simp only [preds]
    rw [preds_keep (by simp; omega), List.getElem?_append_left h]
theorem preds_spec : ∀ {l : List Oper} {acc : List Nat} (j : Nat) (o : Oper), l[j]? = some o → ∀ k ∈ maskL (((preds acc l)[acc.length + j]?).getD 0), ∃ e ∈ o.after, Region.binds .any e = true ∧ (k = e.on ∨ k ∈ maskL (((preds acc l)[e.on]?).getD 0))
  | [], acc, j, o, ho, k, hk => by simp at ho
  | a :: t, acc, j, o, ho, k, hk => by
    simp only [preds] at hk ⊢
    cases j with
    | zero =>
      simp only [List.getElem?_cons_zero, Option.some.injEq] at ho
      subst ho
      rw [preds_keep (by simp)] at hk
      simp only [Nat.add_zero, List.getElem?_concat_length, Option.getD_some] at hk
      obtain ⟨e, he, hb, h⟩ := predsOf_spec hk
      refine ⟨e, by simpa using he, hb, h.imp id fun h => ?_⟩
      have hlt : e.on < acc.length := by
        rcases Nat.lt_or_ge e.on acc.length with h' | h'
        · exact h'
        · rw [List.getElem?_eq_none h'] at h; simp [maskL] at h
      rw [preds_keep (by simp; omega), List.getElem?_append_left hlt]
      exact h
    | succ j =>
      have := preds_spec (l := t) (acc := acc ++ [predsOf acc a.after.toList]) j o (by simpa using ho) k (by
        simp only [List.length_append, List.length_singleton]
        rwa [show acc.length + 1 + j = acc.length + (j + 1) by omega])
      exact this
section
variable {P : Program} {cfg : Cfg} {call : CallF} {id n p : Nat} {C : Ctx} {m0 : Gh}
theorem Sim.congr {st st' : St} {a : Act} {w : World} (h : StEq st st') (hs : Sim cfg.glob C p m0 n st a w) : Sim cfg.glob C p m0 n st' a w := by
  obtain ⟨⟨S, m, hi, ht, hp⟩, h1, h2, hex⟩ := hs
  exact ⟨⟨S, m, hi.congr (fun i => (h.2 i).symm), ⟨fun t v hv => ht.get t v (by rw [h.1 t]; exact hv), ht.glob⟩, hp⟩, h1, h2, hex⟩
theorem Sim.drawn {st : St} {a : Act} {w w' : World} (hs : Sim cfg.glob C p m0 n st a w) (h1 : w'.os = w.os) (h2 : w'.tape = w.tape) (h3 : w'.output = w.output) (h4 : w'.heap = w.heap) : Sim cfg.glob C p m0 n st a w' := by
  obtain ⟨⟨S, m, hi, ht, hp⟩, hz, hd, hex⟩ := hs
  have hc : Inv ⟨w, S, fun _ => False, fun _ => False, []⟩ S (fun _ => none) (enumB 0 []) w' :=
    ⟨h1, h2, h3, by rw [h4]; exact Nat.le_refl _, fun b _ _ => by rw [h4], (fun _ _ h => by cases h), (fun s b hs _ => by rw [hget_enum0] at hs; simp at hs), (fun s s' b b' r r' _ hs => by rw [hget_enum0] at hs; simp at hs), (fun s b r hs => by rw [hget_enum0] at hs; simp at hs), (by rw [h4]; exact hi.st),
      fun b hb => .inl hb, fun _ h => h⟩
  have hx := hi.quiet (fun _ h => h) hc
  exact ⟨⟨S, m, hx.inv, ht.mono hx.rv, hp⟩, hz, hd, hex⟩
/-- What is left of a region, in any order. -/
theorem any_wp (hcall : CallOk P cfg call) (hnames : NamesOk P) {ops : Array Oper} (hbk : ∀ (j : Nat) o, ops[j]? = some o → ∀ e ∈ o.after, Region.binds .any e = true → e.on < j) {pre : Nat → List Nat}
    (hpre : ∀ (j : Nat) o, ops[j]? = some o → ∀ k ∈ pre j, ∃ e ∈ o.after, Region.binds .any e = true ∧ (k = e.on ∨ k ∈ pre e.on)) (hdst : ∀ o ∈ ops.toList, dstOk n o = true) {st' : St} {Q : Exit → Act → World → Prop} :
    ∀ (k : Nat) {l : List Nat} {listed : Array Bool} {st r : St} {fs : List (Nat × Foot)} {a : Act} {w : World}, l.length = k → runL P cfg call id ops.toList l st = some (r, fs) → StEq r st' → (fs.Pairwise fun x y => x.1 ∈ pre y.1 ∨ clash x.2 y.2 = false) →
      l.Pairwise (· < ·) → (∀ j, j ∈ l ↔ listed.getD j true = false) → listed.size = ops.size → (∀ j, j < ops.size → j ∉ l → ∀ q ∈ pre j, q ∉ l) → Sim cfg.glob C p m0 n st a w → (∀ a' w', Sim cfg.glob C p m0 n st' a' w' → Q .normal a' w') → wpAny P .any ops Q k listed a w
  | 0, l, listed, st, r, fs, a, w, hk, e, hst, hcl, hsort, hl, hsz, hdown, hs, hQ => by
    obtain rfl := List.length_eq_zero_iff.1 hk
    simp only [runL, Option.some.injEq, Prod.mk.injEq] at e
    obtain ⟨rfl, rfl⟩ := e
    refine wpAny_done ?_ (hQ _ _ (hs.congr hst)) 0
    refine List.eq_nil_iff_forall_not_mem.2 fun j hj => ?_
    have := (hl j).2 (mem_ready.1 hj).1
    simp at this
  | k + 1, l, listed, st, r, fs, a, w, hk, e, hst, hcl, hsort, hl, hsz, hdown, hs, hQ => by
    have hlt : ∀ j ∈ l, j < ops.size := fun j hj => by
      have := (hl j).1 hj
      rcases Nat.lt_or_ge j listed.size with h' | h'
      · omega
      · simp [Array.getElem?_eq_none h'] at this
    refine ⟨fun hnil => ?_, fun i hi => ?_⟩
    · exfalso
      cases l with
      | nil => simp at hk
      | cons i t =>
        have hsort' := List.pairwise_cons.1 hsort
        have hi := hlt i (List.mem_cons_self ..)
        have hmem : i ∈ Region.ready .any ops listed := by
          refine mem_ready.2 ⟨(hl i).1 (List.mem_cons_self ..), ops[i], by simp [hi], fun e he hb => ?_⟩
          have hlt' := hbk i ops[i] (by simp [hi]) e he hb
          have hn : e.on ∉ i :: t := fun h => by
            rcases List.mem_cons.1 h with h | h
            · omega
            · have := hsort'.1 _ h; omega
          have := mt (hl e.on).2 hn
          have hlt2 : e.on < listed.size := by omega
          simpa [hlt2] using this
        rw [hnil] at hmem
        cases hmem
    · obtain ⟨hun, o, ho, hall⟩ := mem_ready.1 hi
      have hil := (hl i).2 hun
      obtain ⟨l1, l2, rfl⟩ := List.append_of_mem hil
      obtain ⟨fs1, fi, fs2, rfl, hf1, hh⟩ := runL_move e
      have hun' : ∀ q ∈ pre i, q ∉ l1 ++ i :: l2 := fun q hq hm => by
        obtain ⟨e', he', hb, h⟩ := hpre i o ho q hq
        have hon := hall e' he' hb
        have hnl : e'.on ∉ l1 ++ i :: l2 := fun h => by
          have := (hl e'.on).1 h
          rcases Nat.lt_or_ge e'.on listed.size with h' | h'
          · simp [h'] at this hon; rw [hon] at this; cases this
          · simp [Array.getElem?_eq_none h'] at hon
        rcases h with rfl | h
        · exact hnl hm
        · exact hdown e'.on (by
            have := hbk i o ho e' he' hb
            have := hlt i hil
            omega) hnl q h hm
      have hpw := List.pairwise_append.1 hcl
      obtain ⟨oi, s1, r', hoi, e1, e2, hr⟩ := hh fun x hx => (hpw.2.2 x hx (i, fi) (List.mem_cons_self ..)).resolve_left fun hx' => hun' _ hx' (by
        refine List.mem_append_left _ ?_
        rw [← hf1]
        exact List.mem_map_of_mem hx)
      have hoo : oi = o := by
        have : ops[i]? = some oi := by simpa using hoi
        rw [ho] at this
        injection this with this
        exact this.symm
      subst hoo
      refine evIx_wp hcall hnames e1 ho (hdst oi (by
        have := Array.mem_of_getElem? ho
        simpa using this)) hs fun a' w' hs' => ?_
      have hnd : (l1 ++ i :: l2).Nodup := hsort.imp fun h => Nat.ne_of_lt h
      have hmem : ∀ j, j ∈ l1 ++ l2 ↔ j ∈ l1 ++ i :: l2 ∧ j ≠ i := by
        intro j
        have hni : i ∉ l1 ++ l2 := by
          have h3 := List.nodup_append.1 hnd
          exact fun h => (List.mem_append.1 h).elim (fun h => h3.2.2 i h i (List.mem_cons_self ..) rfl) (List.nodup_cons.1 h3.2.1).1
        simp only [List.mem_append, List.mem_cons] at hni ⊢
        constructor
        · intro h
          exact ⟨h.imp (fun h => h) .inr, fun e => hni (e ▸ h)⟩
        · rintro ⟨h | h | h, h2⟩
          · exact .inl h
          · exact absurd h h2
          · exact .inr h
      have hsub : List.Sublist (fs1 ++ fs2) (fs1 ++ (i, fi) :: fs2) := List.Sublist.append_left (List.sublist_cons_self _ _) _
      have hsub2 : List.Sublist (l1 ++ l2) (l1 ++ i :: l2) := List.Sublist.append_left (List.sublist_cons_self _ _) _
      refine any_wp hcall hnames hbk hpre hdst k (by simp at hk ⊢; omega) e2 (hr.symm.trans hst) (hcl.sublist hsub) (hsort.sublist hsub2) (fun j => ?_) (by simpa using hsz) (fun j hj hjn q hq hql => ?_) hs' hQ
      · rw [hmem, hl j]
        by_cases hji : j = i
        · subst hji
          have : j < listed.size := by have := hlt j hil; omega
          simp [this]
        · rw [getD_set_ne true (Ne.symm hji)]
          exact ⟨fun h => h.1, fun h => ⟨h, hji⟩⟩
      · have hql' := (hmem q).1 hql
        by_cases hji : j = i
        · subst hji
          exact hun' q hq hql'.1
        · exact hdown j hj (fun h => hjn ((hmem j).2 ⟨h, hji⟩)) q hq hql'.1
theorem draw_ok {cfg : Cfg} {call : CallF} (hm : P.follows .mixedOrders = true) (hcall : CallOk P cfg call) (hnames : NamesOk P) : DrawOk P cfg call := by
  intro C p n m0 id ops st st' fs e hd hdst Q a w hs hQ
  refine wp_region_any hm ?_
  unfold drawOk at hd
  simp only [Bool.and_eq_true] at hd
  obtain ⟨fs', h1, h2⟩ := evOps_runL e fun k => by simp
  have hlen : ops.toList.length = ops.size := by simp
  rw [hlen] at h1
  have hf1 := runL_fst h1
  have hflen : fs'.length = ops.size := by
    have := congrArg List.length hf1
    simpa using this
  have hix : ∀ (q : Nat) x, fs'[q]? = some x → x.1 = q ∧ fs[q]? = some x.2 := fun q x hx => by
    have a1 : (fs'.map (·.1))[q]? = some x.1 := by rw [List.getElem?_map, hx]; rfl
    have a2 : (fs'.map (·.2))[q]? = some x.2 := by rw [List.getElem?_map, hx]; rfl
    rw [hf1] at a1
    rw [h2] at a2
    refine ⟨?_, a2⟩
    obtain ⟨hq, hq'⟩ := List.getElem?_eq_some_iff.1 a1
    rw [← hq']
    simp
  refine any_wp hcall hnames (pre := fun j => maskL (((preds [] ops.toList)[j]?).getD 0)) (fun j o ho e he hb => ?_) (fun j o ho k hk => ?_) hdst ops.size (by simp) h1 (StEq.refl _) (List.pairwise_iff_getElem.2 fun i j hi hj hij => ?_) (List.pairwise_lt_range' ..) (fun j => ?_) (by simp) (fun j hj hjn => ?_) (hs.drawn rfl rfl rfl rfl) hQ
  · have := backs_spec (l := ops.toList) hd.1 j o (by simpa using ho) e he hb
    omega
  · have := preds_spec (l := ops.toList) (acc := []) j o (by simpa using ho) k (by simpa using hk)
    simpa using this
  · have hi' := hix i _ (List.getElem?_eq_getElem hi)
    have hj' := hix j _ (List.getElem?_eq_getElem hj)
    have := clearAll_spec hd.2 j _ hj'.2 i _ (by simpa using hij) (by simpa using hi'.2)
    rw [hi'.1, hj'.1]
    simpa using this
  · simp only [List.mem_range'_1, Nat.zero_le, true_and, Nat.zero_add]
    by_cases hj : j < ops.size <;> simp [hj]
  · exact absurd (List.mem_range'_1.2 ⟨Nat.zero_le _, by omega⟩) hjn
end
end Go.Proofs.YthhpdnlfhofanaaGreatDoor
namespace Go.Proofs.YthhpdnlfhofanaaGreatDoor
open Go.RowKit
set_option linter.unusedVariables false
set_option linter.unusedSimpArgs false
section
variable {P : Program} {cfg : Cfg}
theorem evalF_ok (hm : P.follows .mixedOrders = true) (hnames : NamesOk P) (hdsts : DstsOk P) (hcfg : CfgOk P cfg) : ∀ n, FunOk P cfg.glob (evalF P cfg n)
  | 0, f, vs, bs, r, out => fun e => by simp [evalF] at e
  | n + 1, f, vs, bs, r, out => by
    intro e C S m w hi xs hx hg hex
    have hcall : CallOk P cfg (evalF P cfg n) := callV_ok hcfg (evalF_ok hm hnames hdsts hcfg n)
    simp only [evalF] at e
    cases hf : P.funcs[f]? with
    | none => rw [hf] at e; cases e
    | some fn =>
      rw [hf] at e
      simp only at e
      cases hb : fn.body with
      | none => rw [hb] at e; cases e
      | some c =>
        rw [hb] at e
        exact evBody_ok hcall hnames (draw_ok hm hcall hnames) hcfg.dfr hdsts hf hb e hi hx hg hex
/-- A call with values that nobody writes. -/
theorem eval_calls (hm : P.follows .mixedOrders = true) (hnames : NamesOk P) (hdsts : DstsOk P) (hcfg : CfgOk P cfg) {n : Nat} {f : FuncId} {vs : List V} {r : V} {out : List Bk} (e : evalF P cfg n f vs [] = some (r, out))
    {S : Nat → Prop} {w : World} (hS : ∀ b, S b → b < w.heap.size) {xs : List Value} (hx : RVs (fun _ => none) S w vs xs) (hg : GlobR cfg.glob (fun _ => none) S w) (hew : ExW cfg.glob w) :
    Calls P f xs.toArray w fun e w' => ∃ S' m' x, e = .returned x ∧ Inv ⟨w, S, fun _ => False, fun _ => False, []⟩ S' m' (enumB 0 out) w' ∧ RV m' S' w' r x :=
  (evalF_ok hm hnames hdsts hcfg n e (start_inv S hS _ _) hx hg (hew.start fun _ _ _ h => h)).mono fun e w' ⟨S', m', x, h1, h2, h3, _⟩ => ⟨S', m', x, h1, h2, h3⟩
/-- A law's answer. -/
theorem eval_true (hm : P.follows .mixedOrders = true) (hnames : NamesOk P) (hdsts : DstsOk P) (hcfg : CfgOk P cfg) {n : Nat} {f : FuncId} {vs : List V} {out : List Bk} (e : evalF P cfg n f vs [] = some (.bool true, out))
    {w : World} {xs : List Value} (hx : RVs (fun _ => none) (· < w.heap.size) w vs xs) (hg : GlobR cfg.glob (fun _ => none) (· < w.heap.size) w) (hew : ExW cfg.glob w) :
    Calls P f xs.toArray w fun e w' => e = .returned (.bool true) ∧ Below w.heap.size w w' :=
  (eval_calls hm hnames hdsts hcfg e (fun _ h => h) hx hg hew).mono fun e w' ⟨S', m', x, h1, h2, h3⟩ => by
    cases h3
    exact ⟨h1, h2.os, h2.tape, h2.output, h2.size, fun b hb => h2.frame b hb fun h => h⟩
end
/-- The two closed facts about a program, in a form that is evaluated. -/
def namesOkB (P : Program) : Bool := P.funcs.toList.all fun fn => !(fn.name == "runtime.NumGoroutine")
def dstsOkB (P : Program) : Bool := P.funcs.toList.all fun fn => match fn.body with
  | some c => codeOk fn.ntmps c
  | none => true
theorem names_ok {P : Program} (h : namesOkB P = true) : NamesOk P := fun f fn hf => by
  have := List.all_eq_true.1 h fn (by simpa using Array.mem_of_getElem? hf)
  simpa using this
theorem dsts_ok {P : Program} (h : dstsOkB P = true) : DstsOk P := fun f fn c hf hb => by
  have := List.all_eq_true.1 h fn (by simpa using Array.mem_of_getElem? hf)
  rwa [hb] at this
end Go.Proofs.YthhpdnlfhofanaaGreatDoor
