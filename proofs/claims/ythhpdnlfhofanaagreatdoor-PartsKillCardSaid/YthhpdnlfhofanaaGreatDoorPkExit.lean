/- Processes: the end of Exit behind its append. -/
import Derived.Test.YthhpdnlfhofanaaGreatDoorPkEnd
import Derived.Deep.RegionHeld3
import Derived.Deep.RegionLaw
namespace Go.Proofs.YthhpdnlfhofanaaGreatDoor
open Go.RowKit
set_option maxRecDepth 100000
set_option linter.unusedVariables false
set_option linter.unusedSimpArgs false
theorem waitsC_snoc (l : List Wait) (x : Wait) : waitsC (l ++ [x]) = waitsC l ++ [.int .i64 x.id, .string ⟨⟨x.status⟩⟩] := by simp [waitsC]
theorem row_set {us : Nat → Array Value} {n i j k : Nat} {y : Value} (hs : ∀ i, i < n → (us i).size = 13) (hi : i < n) (hj : j < 13) (hne : ¬ (i = k ∧ j = 11)) : ((rowsL us n).toArray.setIfInBounds (k * 13 + 11) y)[i * 13 + j]? = (us i)[j]? := by
  rw [Array.getElem?_setIfInBounds_ne (by omega)]
  simpa using rowsL_get hs hi hj
theorem glob_more9 {gl : Gl} {S S' : Nat → Prop} {w W : World} (hg : GlobR gl (fun _ => none) S w) (hS : ∀ b, S b → b < w.heap.size) (hb : Below w.heap.size w W) (hs : ∀ b, S b → S' b) : GlobR gl (fun _ => none) S' W :=
  fun g cs e => (hg g cs e).mono (fun _ _ h => h) hs (fun b h => hb.block b (hS b h))
theorem exw_more9 {gl : Gl} {S : Nat → Prop} {w W : World} (hg : GlobR gl (fun _ => none) S w) (hew : ExW gl w) (hS : ∀ b, S b → b < w.heap.size) (hb : Below w.heap.size w W) : ExW gl W := fun g cs e => by
  obtain ⟨arr, t, fr, h1, h2⟩ := hew g cs e
  exact ⟨arr, t, fr, (hb.block g (hS g (hg.inS e))).trans h1, h2⟩
theorem append_suffix [MaxL] (ps : List Proc) (nx gp id : Int) (st : List UInt8) {S : Nat → Prop} {w w6 w7 w8 : World} (hS : ∀ b, S b → b < w.heap.size) (hgl : GlobR cfgX.glob (fun _ => none) S w) (hew : ExW cfgX.glob w) (hn : ps.length ≤ 70)
    (ki kj g6 g8 B b0 : Nat) {us : Nat → Array Value} {lo hi : Nat → Nat} (T6 : Tab ps B b0 g8 us lo hi w6) (hki : ki < ps.length) (ho : w.heap.size ≤ g6 ∧ g6 < B ∧ B < b0 ∧ b0 ≤ g8 ∧ g8 < w6.heap.size) (BW6 : Below w.heap.size w w6)
    {q : Proc} (hq : ps[kj]? = some q) {BN BW : Option Addr} {dN dW : Nat} (hus : us kj = procC q BN BW dN dW) (p1 : Own w6 (lo kj) 9 1 BN q.notes.length dN (notesC q.notes)) (p2 : Own w6 (lo kj) 129 2 BW q.waits.length dW (waitsC q.waits))
    (m1 : ∀ g off, BN = some ⟨g, off, none⟩ → g < hi kj) (m2 : ∀ g off, BW = some ⟨g, off, none⟩ → g < hi kj)
    (h67 : Below w6.heap.size w6 w7) {A2 : Option Addr} {c2 : Nat} (o2 : Own w8 (lo kj) 129 2 A2 (q.waits.length + 1) c2 (waitsC q.waits ++ [.int .i64 id, .string ⟨⟨st⟩⟩])) (hf : Fr (fun i => BW = some ⟨i, 0, none⟩) w7 w8) (ha : A2 = BW ∨ A2 = some ⟨w7.heap.size, 0, none⟩)
    (b8 : Blk w8 g8 41 #[.int .i64 nx, .int .i64 gp, .slice (some ⟨B, 0, none⟩) ps.length ps.length]) (b6 : Blk w8 g6 41 #[.int .i64 0, .int .i64 0, .slice none 0 0]) (bB : Blk w8 B 45 (rowsL us ps.length).toArray)
    {a : Act} {Q : Exit → Act → World → Prop} (hsize : a.tmps.size = Tryz.f15.ntmps) (hd : a.defers = [])
    (h1 : a.tmps.getD 1 undef = .int .i64 id) (h6 : a.tmps.getD 6 undef = .pointer (some ⟨g6, 0, none⟩)) (h8 : a.tmps.getD 8 undef = .pointer (some ⟨g8, 0, none⟩)) (h9 : a.tmps.getD 9 undef = .int .i64 (ki : Int))
    (hQ : ∀ a' w' x S', a'.defers = [] → (results Tryz.f15 a'.tmps).run Tryz.prog w' = .ok x w' → Below w.heap.size w w' → (∀ b, S' b → b < w'.heap.size ∧ (S b ∨ w.heap.size ≤ b)) → (∀ b, S b → S' b) →
      RV (fun _ => none) S' w' (.tup [.agg [.int .i64 nx, .int .i64 gp, .lst (procV (exitL id ki (ps.modify kj fun p => { p with waits := p.waits ++ [⟨id, st⟩] })))], .int .i64 0]) x → Q .ret a' w') :
    restC.wp Tryz.prog Q a (w8.setCell ⟨B, kj * 13 + 11, none⟩ (.slice A2 (q.waits.length + 1) c2)) := by
  have hkj : kj < ps.length := (List.getElem?_eq_some_iff.1 hq).1
  obtain ⟨_, _, l1, l2, l3⟩ := T6.2.1 kj q hq
  have hle := BW6.size
  have s67 := h67.size
  have s78 := hf.size
  have hBW : ∀ g, BW = some ⟨g, 0, none⟩ → lo kj ≤ g ∧ g < hi kj := fun g hg => ⟨(p2.lt hg).1, m2 g 0 hg⟩
  generalize hW : w8.setCell ⟨B, kj * 13 + 11, none⟩ (.slice A2 (q.waits.length + 1) c2) = W9
  have s89 : W9.heap.size = w8.heap.size := by rw [← hW]; simp [World.setCell]
  have hf9 : Fr (fun k => k = B) w8 W9 := by rw [← hW]; exact ⟨rfl, rfl, rfl, by simp [World.setCell], fun k _ hk => Below.heap_setCell _ _ _ _ (by simpa using hk)⟩
  have F9 : Fr (fun k => BW = some ⟨k, 0, none⟩ ∨ k = B) w6 W9 := by
    refine ⟨(hf9.os.trans hf.os).trans h67.os, (hf9.tape.trans hf.tape).trans h67.tape, (hf9.output.trans hf.output).trans h67.output, by omega, fun k hk hnk => ?_⟩
    rw [hf9.block k (by omega) (fun e => hnk (.inr e)), hf.block k (by omega) (fun e => hnk (.inl e)), h67.block k hk]
  have hbw9 : Below w.heap.size w W9 := by
    refine ⟨F9.os.trans BW6.os, F9.tape.trans BW6.tape, F9.output.trans BW6.output, by have := F9.size; omega, fun k hk => ?_⟩
    rw [F9.block k (by omega) (fun e => by
      rcases e with e | e
      · have := hBW k e; omega
      · omega)]
    exact BW6.block k hk
  have b89 : Blk W9 g8 41 #[.int .i64 nx, .int .i64 gp, .slice (some ⟨B, 0, none⟩) (ps.modify kj fun p => { p with waits := p.waits ++ [⟨id, st⟩] }).length (ps.modify kj fun p => { p with waits := p.waits ++ [⟨id, st⟩] }).length] := by
    rw [List.length_modify]; exact b8.fr hf9 (by omega)
  have b69 := b6.fr hf9 (by omega)
  have bB9 : Blk W9 B 45 ((rowsL us ps.length).toArray.setIfInBounds (kj * 13 + 11) (.slice A2 (q.waits.length + 1) c2)) := by rw [← hW]; exact bB.set_ _ _
  have hA2 : ∀ g off, A2 = some ⟨g, off, none⟩ → w.heap.size ≤ g ∧ g < W9.heap.size ∧ g ≠ g6 ∧ g ≠ g8 ∧ g ≠ B := by
    intro g off hg
    obtain ⟨e1, e2, _⟩ := o2.lt hg
    rcases ha with e | e
    · have := m2 g off (e ▸ hg); exact ⟨by omega, by omega, by omega, by omega, by omega⟩
    · rw [hg] at e; injection e with e; injection e with e; exact ⟨by omega, by omega, by omega, by omega, by omega⟩
  have hS9 : ∀ b, S b → (fun b => S b ∨ (w.heap.size ≤ b ∧ b < W9.heap.size ∧ b ≠ g6 ∧ b ≠ g8 ∧ b ≠ B)) b := fun b h => .inl h
  refine suffix_wp nx gp id (ps.modify kj fun p => { p with waits := p.waits ++ [⟨id, st⟩] }) ki g6 g8 B _ (by rw [List.length_modify]; exact hki) (by rw [List.length_modify]; exact hn) (S := fun b => S b ∨ (w.heap.size ≤ b ∧ b < W9.heap.size ∧ b ≠ g6 ∧ b ≠ g8 ∧ b ≠ B)) ?_ ⟨by omega, by omega, by omega⟩ b89 b69 bB9 ?_ ?_ ?_ ?_ hsize hd h1 h6 h8 h9 ?_
  · rintro b (h | h)
    · have := hS b h; have := hbw9.size; exact ⟨by omega, by omega, by omega, by omega⟩
    · exact ⟨h.2.1, h.2.2.1, h.2.2.2.1, h.2.2.2.2⟩
  · rw [Array.size_setIfInBounds, List.size_toArray, rowsL_len T6.sizes, List.length_modify]
  · intro i p' j v hp' hv
    have hj : j < 13 := by have := (List.getElem?_eq_some_iff.1 hv).1; simpa [Proc.v] using this
    rw [List.getElem?_modify] at hp'
    obtain ⟨p, hp, rfl⟩ := Option.map_eq_some_iff.1 hp'
    have hi' : i < ps.length := (List.getElem?_eq_some_iff.1 hp).1
    by_cases e : kj = i
    · subst e
      rw [hq] at hp; cases hp
      simp only [if_true] at hv
      have hset : ∀ j, j < 13 → j ≠ 11 → ((rowsL us ps.length).toArray.setIfInBounds (kj * 13 + 11) (.slice A2 (q.waits.length + 1) c2))[kj * 13 + j]? = (us kj)[j]? := fun j h1 h2 => row_set T6.sizes hi' h1 (fun h => h2 h.2)
      simp only [Proc.v] at hv
      match j, hj, hv with
      | 0, _, hv => cases hv; exact ⟨_, by rw [hset 0 (by omega) (by omega), hus]; rfl, .int _ _⟩
      | 1, _, hv => cases hv; exact ⟨_, by rw [hset 1 (by omega) (by omega), hus]; rfl, .int _ _⟩
      | 2, _, hv => cases hv; exact ⟨_, by rw [hset 2 (by omega) (by omega), hus]; rfl, .int _ _⟩
      | 3, _, hv => cases hv; exact ⟨_, by rw [hset 3 (by omega) (by omega), hus]; rfl, .str _⟩
      | 4, _, hv => cases hv; exact ⟨_, by rw [hset 4 (by omega) (by omega), hus]; rfl, .str _⟩
      | 5, _, hv => cases hv; exact ⟨_, by rw [hset 5 (by omega) (by omega), hus]; rfl, .int _ _⟩
      | 6, _, hv => cases hv; exact ⟨_, by rw [hset 6 (by omega) (by omega), hus]; rfl, .int _ _⟩
      | 7, _, hv => cases hv; exact ⟨_, by rw [hset 7 (by omega) (by omega), hus]; rfl, .int _ _⟩
      | 8, _, hv => cases hv; exact ⟨_, by rw [hset 8 (by omega) (by omega), hus]; rfl, .str _⟩
      | 9, _, hv =>
        cases hv
        have o9 : Own W9 (lo kj) 9 1 BN q.notes.length dN (notesC q.notes) := p1.fr F9 (fun g off hg hk => by
          rcases hk with hk | hk
          · exact p1.ne_own p2 (by decide) g off g 0 hg hk rfl
          · have := (p1.lt hg).1; omega)
        exact ⟨_, by rw [hset 9 (by omega) (by omega), hus]; rfl, rv_notes o9 fun g off hg => .inr ⟨by have := (p1.lt hg).1; omega, (o9.lt hg).2.1, by have := (p1.lt hg).1; omega, by have := m1 g off hg; omega, by have := (p1.lt hg).1; omega⟩⟩
      | 10, _, hv => cases hv; exact ⟨_, by rw [hset 10 (by omega) (by omega), hus]; rfl, .str _⟩
      | 11, _, hv =>
        cases hv
        have o9 : Own W9 (lo kj) 129 2 A2 (q.waits ++ [(⟨id, st⟩ : Wait)]).length c2 (waitsC (q.waits ++ [⟨id, st⟩])) := by
          rw [List.length_append, waitsC_snoc]
          exact o2.fr hf9 (fun g off hg hk => by have := (o2.lt hg).1; omega)
        refine ⟨.slice A2 (q.waits.length + 1) c2, ?_, ?_⟩
        · rw [Array.getElem?_setIfInBounds_self_of_lt (by rw [List.size_toArray, rowsL_len T6.sizes]; omega)]
        · have := rv_waits (m := fun _ => none) (S := fun b => S b ∨ (w.heap.size ≤ b ∧ b < W9.heap.size ∧ b ≠ g6 ∧ b ≠ g8 ∧ b ≠ B)) o9 (fun g off hg => .inr (hA2 g off hg))
          rw [List.length_append] at this
          exact this
      | 12, _, hv => cases hv; exact ⟨_, by rw [hset 12 (by omega) (by omega), hus]; rfl, .bool _⟩
    · simp only [if_neg e] at hv
      obtain ⟨a1, a2, a3, a4, a5⟩ := T6.2.1 i p hp
      have a1' := a1.fr F9 (fun k hk => by
        rcases hk with hk | hk
        · have := hBW k hk
          rcases Nat.lt_or_gt_of_ne e with h | h
          · have := T6.2.2 kj i h hi'; exact .inl (by omega)
          · have := T6.2.2 i kj h hkj; exact .inr (by omega)
        · exact .inl (by omega))
      obtain ⟨y, hy, hr⟩ := a1'.rv (m := fun _ => none) (S := fun b => S b ∨ (w.heap.size ≤ b ∧ b < W9.heap.size ∧ b ≠ g6 ∧ b ≠ g8 ∧ b ≠ B)) (fun b h1 h2 h3 => .inr ⟨by omega, h3, by omega, by omega, by omega⟩) j v hv
      exact ⟨y, (row_set T6.sizes hi' hj (fun h => e h.1.symm)).trans hy, hr⟩
  · exact glob_more9 hgl hS hbw9 hS9
  · exact exw_more9 hgl hew hS hbw9
  · intro a' w' x S' hd' hres hfr hS1 hS2 hrv
    refine hQ a' w' x S' hd' hres (hbw9.trans (hfr.below (by have := hbw9.size; omega) (fun i hi => by omega))) (fun b h => ?_) (fun b h => hS2 b (.inl h)) hrv
    obtain ⟨h1, h2⟩ := hS1 b h
    refine ⟨h1, ?_⟩
    have := hbw9.size
    rcases h2 with (h2 | h2) | h2 | h2 | h2 | h2
    · exact .inl h2
    · exact .inr h2.1
    · exact .inr (by omega)
    · exact .inr (by omega)
    · exact .inr (by omega)
    · exact .inr (by omega)
end Go.Proofs.YthhpdnlfhofanaaGreatDoor
namespace Go.Proofs.YthhpdnlfhofanaaGreatDoor
open Go.RowKit
set_option linter.unusedSimpArgs false
set_option linter.unusedVariables false
theorem short_any (s : List UInt8) (w : World) : Calls Tryz.prog 51 #[.string ⟨⟨s⟩⟩] w fun e w' => e = .returned (.bool (decide (s.length ≤ 1024))) ∧ w = w' := by
  have hsz : (⟨⟨s⟩⟩ : ByteArray).size = s.length := rfl
  by_cases h : s.length ≤ 1024
  · have h' : ((s.length : Nat) : Int) ≤ 1024 := by omega
    go_enter Tryz.func51, Tryz.ntmps51
    go_wp2_with fail
    all_goals (go_ret; simp_all <;> omega)
  · have h' : ¬ ((s.length : Nat) : Int) ≤ 1024 := by omega
    go_enter Tryz.func51, Tryz.ntmps51
    go_wp2_with fail
    all_goals (go_ret; simp_all <;> omega)
theorem glob_more {gl : Gl} {S S' : Nat → Prop} {w W : World} (hg : GlobR gl (fun _ => none) S w) (hS : ∀ b, S b → b < w.heap.size) (hb : Below w.heap.size w W) (hs : ∀ b, S b → S' b) : GlobR gl (fun _ => none) S' W :=
  fun g cs e => (hg g cs e).mono (fun _ _ h => h) hs (fun b h => hb.block b (hS b h))
theorem exw_more {gl : Gl} {S : Nat → Prop} {w W : World} (hg : GlobR gl (fun _ => none) S w) (hew : ExW gl w) (hS : ∀ b, S b → b < w.heap.size) (hb : Below w.heap.size w W) : ExW gl W := fun g cs e => by
  obtain ⟨arr, t, fr, h1, h2⟩ := hew g cs e
  exact ⟨arr, t, fr, (hb.block g (hS g (hg.inS e))).trans h1, h2⟩
theorem tab_agg {ps : List Proc} {B b0 b1 : Nat} {us : Nat → Array Value} {lo hi : Nat → Nat} {W : World} (h : Tab ps B b0 b1 us lo hi W) {m : Gh} {S : Nat → Prop} (nx gp : Int) (hB : S B) (hS : ∀ b, b0 ≤ b → b < b1 → b < W.heap.size → S b) :
    RV m S W (.agg [.int .i64 nx, .int .i64 gp, .lst (procV ps)]) (.agg #[.int .i64 nx, .int .i64 gp, .slice (some ⟨B, 0, none⟩) ps.length ps.length]) := by
  have : RVs m S W [.int .i64 nx, .int .i64 gp, .lst (procV ps)] [.int .i64 nx, .int .i64 gp, .slice (some ⟨B, 0, none⟩) ps.length ps.length] := .cons (.int _ _) (.cons (.int _ _) (.cons (h.rv hB hS) .nil))
  exact .agg _ _ this.1 this.2
theorem rv_pair {m : Gh} {S : Nat → Prop} {W : World} {v : V} {y : Value} (h : RV m S W v y) (c : Int) : RV m S W (.tup [v, .int .i64 c]) (.tuple #[y, .int .i64 c]) := by
  have : RVs m S W [v, .int .i64 c] [y, .int .i64 c] := .cons h (.cons (.int _ _) .nil)
  exact .tup _ _ this.1 this.2
theorem reads_two (w : World) (e : TypeId) (v v' : Value) : Reads (w.alloc (.cells #[v, v'] e)) (w.heap.size + 1) 2 (some ⟨w.heap.size, 0, none⟩) 1 [v, v'] := by
  refine ⟨rfl, fun _ => ⟨w.heap.size, 0, rfl, by omega, fun j u hu => ?_⟩⟩
  have hb := Blk.new w e #[v, v']
  match j, hu with
  | 0, hu => simp at hu; subst hu; exact hb.cell 0
  | 1, hu => simp at hu; subst hu; exact hb.cell 1
theorem idxP_ex (l : List Proc) (id : Int) : ∃ i, isIdxP l id i := by
  by_cases h : ∀ p ∈ l, p.id ≠ id
  · exact ⟨-1, .inl ⟨rfl, h⟩⟩
  · induction l with
    | nil => exact absurd (fun p hp => by cases hp) h
    | cons x t ih =>
      by_cases hx : x.id = id
      · exact ⟨0, .inr ⟨0, rfl, (fun p hp => by simp at hp), x, rfl, hx⟩⟩
      · by_cases ht : ∀ p ∈ t, p.id ≠ id
        · exact absurd (fun p hp => by
            rcases List.mem_cons.1 hp with rfl | hp
            · exact hx
            · exact ht p hp) h
        · obtain ⟨i, hi⟩ := ih ht
          rcases hi with ⟨_, hno⟩ | ⟨k, rfl, hk, p, hp, hid⟩
          · exact absurd hno ht
          · refine ⟨((k + 1 : Nat) : Int), .inr ⟨k + 1, rfl, fun q hq => ?_, p, by simpa using hp, hid⟩⟩
            rw [List.take_succ_cons] at hq
            rcases List.mem_cons.1 hq with rfl | hq
            · exact hx
            · exact hk q hq
theorem sz_procs : szT Tryz.prog 41 = some 3 := by kernel_rfl
set_option maxRecDepth 100000 in
set_option maxHeartbeats 3200000 in
theorem exit_raw [MaxL] (ps : List Proc) (nx gp id : Int) (st : List UInt8) {S : Nat → Prop} {w : World} (hS : ∀ b, S b → b < w.heap.size) {x : Value} (hx : RV (fun _ => none) S w (.lst (procV ps)) x) (hn : ps.length ≤ 70) (h0 : 0 < ps.length)
    (hl : ∀ p ∈ ps, p.notes.length ≤ 100000 ∧ p.waits.length ≤ 100000) (hgl : GlobR cfgN.glob (fun _ => none) S w) (hew : ExW cfgN.glob w) :
    Calls Tryz.prog 15 #[.agg #[.int .i64 nx, .int .i64 gp, x], .int .i64 id, .string ⟨⟨st⟩⟩] w fun e w' => ∃ (i k : Int) (S' : Nat → Prop) (y : Value), e = .returned y ∧ isIdxP ps id i ∧ (∀ p, ps[i.toNat]? = some p → isIdxP ps p.parent k) ∧ Below w.heap.size w w' ∧
      (∀ b, S' b → b < w'.heap.size ∧ (S b ∨ w.heap.size ≤ b)) ∧ (∀ b, S b → S' b) ∧ RV (fun _ => none) S' w' (exitV nx gp ps id st i k) y := by
  have HX := Lib.hid hx
  have HS := Lib.hid hS
  have HL := Lib.hid hl
  have HG := Lib.hid hgl
  have HW := Lib.hid hew
  clear hx hS hl hgl hew
  go_enter Tryz.func15, Tryz.ntmps15
  go_wp2_with fail
  have hb0 : Below w.heap.size w ((w.alloc (.cells #[.int .i64 nx, .int .i64 gp, x] 41)).alloc (.cells #[.int .i64 0, .int .i64 0, .slice none 0 0] 41)) := ((Below.refl _ _).alloc (Nat.le_refl _) _).alloc (by simp) _
  refine (own_any ps nx gp (S := S) (w := (w.alloc (.cells #[.int .i64 nx, .int .i64 gp, x] 41)).alloc (.cells #[.int .i64 0, .int .i64 0, .slice none 0 0] 41)) (fun b h => Nat.lt_of_lt_of_le (HS.out b h) hb0.size)
    (HX.out.mono (fun _ _ h => h) (fun _ h => h) (fun b h => hb0.block b (HS.out b h))) hn h0 HL.out).mono ?_
  rintro e w2 ⟨rfl, us, lo, hi, hbl, hheap, hrows, hmono⟩
  simp only [World.size_alloc, Nat.add_assoc, Nat.reduceAdd] at hbl hheap hrows
  have tab : Tab ps (w.heap.size + 4) (w.heap.size + 5) w2.heap.size us lo hi w2 := ⟨hheap, hrows, hmono⟩
  have b6 : Blk w2 (w.heap.size + 1) 41 #[.int .i64 0, .int .i64 0, .slice none 0 0] := (Blk.new' (w.alloc _) _ _ (by simp)).below hbl (by omega)
  have hB2 := (Array.getElem?_eq_some_iff.1 hheap).1
  have hbw : Below w.heap.size w w2 := hb0.trans (hbl.mono (by omega))
  have HT := Lib.hid tab
  have HB6 := Lib.hid b6
  have HBW := Lib.hid hbw
  clear hbl hheap hrows hmono tab b6 hbw hb0
  go_wp2_with fail
  have hba : Below w2.heap.size w2 (w2.alloc (.cells #[.int .i64 nx, .int .i64 gp, .slice (some ⟨w.heap.size + 1 + 1 + 2, 0, none⟩) ps.length ps.length] 41)) := (Below.refl _ _).alloc (Nat.le_refl _) _
  have hsz3 : (w2.alloc (.cells #[.int .i64 nx, .int .i64 gp, .slice (some ⟨w.heap.size + 1 + 1 + 2, 0, none⟩) ps.length ps.length] 41)).heap.size = w2.heap.size + 1 := by simp
  refine (index_any nx gp id ps hn (S := fun b => b < (w2.alloc (.cells #[.int .i64 nx, .int .i64 gp, .slice (some ⟨w.heap.size + 1 + 1 + 2, 0, none⟩) ps.length ps.length] 41)).heap.size) (fun b h => h)
    (tab_agg (HT.out.below hba) nx gp (by omega) (fun b _ h _ => by omega)) (glob_more HG.out HS.out (HBW.out.trans (hba.mono HBW.out.size)) (fun b h => by have := HS.out b h; have := HBW.out.size; omega)) (exw_more HG.out HW.out HS.out (HBW.out.trans (hba.mono HBW.out.size)))).mono ?_
  rintro e w4 ⟨ii, rfl, hidx, hb4⟩
  have b8 : Blk w4 w2.heap.size 41 #[.int .i64 nx, .int .i64 gp, .slice (some ⟨w.heap.size + 1 + 1 + 2, 0, none⟩) ps.length ps.length] := (Blk.new w2 _ _).below hb4 (by omega)
  have b6 : Blk w4 (w.heap.size + 1) 41 #[.int .i64 0, .int .i64 0, .slice none 0 0] := (HB6.out.alloc _).below hb4 (by omega)
  have hsz4 : w2.heap.size + 1 ≤ w4.heap.size := by have := hb4.size; omega
  have tab4 : Tab ps (w.heap.size + 4) (w.heap.size + 5) w2.heap.size us lo hi w4 := (HT.out.below hba).fr (S := fun k => w2.heap.size + 1 ≤ k) ⟨hb4.os, hb4.tape, hb4.output, hb4.size, fun k hk hn => hb4.block k hk⟩ (fun k hk => ⟨by omega, .inr (by omega)⟩)
  have hbw4 : Below w.heap.size w w4 := (HBW.out.trans (hba.mono HBW.out.size)).trans (hb4.mono (by have := HBW.out.size; omega))
  have c80 : w4.cell? ⟨w2.heap.size, 0, none⟩ = some (.int .i64 nx) := b8.cell 0
  have c81 : w4.cell? ⟨w2.heap.size, 1, none⟩ = some (.int .i64 gp) := b8.cell 1
  have c82 : w4.cell? ⟨w2.heap.size, 2, none⟩ = some (.slice (some ⟨w.heap.size + 1 + 1 + 2, 0, none⟩) ps.length ps.length) := b8.cell 2
  have c60 : w4.cell? ⟨w.heap.size + 1, 0, none⟩ = some (.int .i64 0) := b6.cell 0
  have c61 : w4.cell? ⟨w.heap.size + 1, 1, none⟩ = some (.int .i64 0) := b6.cell 1
  have c62 : w4.cell? ⟨w.heap.size + 1, 2, none⟩ = some (.slice none 0 0) := b6.cell 2
  have f6 := b6.frozen
  have f8 := b8.frozen
  have hl8 : w2.heap.size < w4.heap.size := by omega
  have hl6 : w.heap.size + 1 < w4.heap.size := by omega
  have hne68 : w.heap.size + 1 ≠ w2.heap.size := by omega
  have HI := Lib.hid hidx
  have HB8 := Lib.hid b8
  have HB64 := Lib.hid b6
  have HT4 := Lib.hid tab4
  have HBW4 := Lib.hid hbw4
  clear b8 b6 tab4 hbw4 hb4 hba hidx
  have bad : ∀ (u0 u1 u2 : Value) (c : Int) (W : World), W = ((w4.setCell ⟨w.heap.size + 1, 0, none⟩ u0).setCell ⟨w.heap.size + 1, 1, none⟩ u1).setCell ⟨w.heap.size + 1, 2, none⟩ u2 → ∀ V0, exitV nx gp ps id st ii V0 = .tup [.agg [.int .i64 nx, .int .i64 gp, .lst (procV ps)], .int .i64 c] →
      Below w.heap.size w W ∧ (∀ b, (S b ∨ (w.heap.size ≤ b ∧ b < W.heap.size)) → b < W.heap.size ∧ (S b ∨ w.heap.size ≤ b)) ∧ RV (fun _ => none) (fun b => S b ∨ (w.heap.size ≤ b ∧ b < W.heap.size)) W (exitV nx gp ps id st ii V0) (.tuple #[.agg #[.int .i64 nx, .int .i64 gp, .slice (some ⟨w.heap.size + 1 + 1 + 2, 0, none⟩) ps.length ps.length], .int .i64 c]) := by
    rintro u0 u1 u2 c W rfl V0 hV
    have hs : (((w4.setCell ⟨w.heap.size + 1, 0, none⟩ u0).setCell ⟨w.heap.size + 1, 1, none⟩ u1).setCell ⟨w.heap.size + 1, 2, none⟩ u2).heap.size = w4.heap.size := by simp [World.setCell]
    have hf : Fr (fun k => k = w.heap.size + 1) w4 (((w4.setCell ⟨w.heap.size + 1, 0, none⟩ u0).setCell ⟨w.heap.size + 1, 1, none⟩ u1).setCell ⟨w.heap.size + 1, 2, none⟩ u2) :=
      ⟨rfl, rfl, rfl, by omega, fun k _ hk => by rw [Below.heap_setCell _ _ _ _ (by simpa using hk), Below.heap_setCell _ _ _ _ (by simpa using hk), Below.heap_setCell _ _ _ _ (by simpa using hk)]⟩
    have ht := HT4.out.fr hf (fun k hk => ⟨by omega, .inl (by omega)⟩)
    refine ⟨((HBW4.out.setCell (by simp) _).setCell (by simp) _).setCell (by simp) _, fun b hb => ?_, ?_⟩
    · rcases hb with hb | hb
      · exact ⟨by have := HS.out b hb; omega, .inl hb⟩
      · exact ⟨hb.2, .inr hb.1⟩
    · rw [hV]
      exact rv_pair (tab_agg ht nx gp (.inr ⟨by omega, by omega⟩) (fun b h1 h2 h3 => .inr ⟨by omega, h3⟩)) c
  obtain ⟨k0, hk0⟩ : ∃ k, ∀ p, ps[ii.toNat]? = some p → isIdxP ps p.parent k := by
    by_cases hq : ∃ p, ps[ii.toNat]? = some p
    · obtain ⟨p, hp⟩ := hq
      obtain ⟨k, hk⟩ := idxP_ex ps p.parent
      exact ⟨k, fun q hq => by rw [hp] at hq; cases hq; exact hk⟩
    · exact ⟨0, fun q hq' => absurd ⟨q, hq'⟩ hq⟩
  have BAD := Lib.hid bad
  have HK0 := Lib.hid hk0
  clear bad hk0
  by_cases hneg : ii < 0
  · go_wp2_with fail
    obtain ⟨q1, q2, q3⟩ := BAD.out (.int .i64 nx) (.int .i64 gp) (.slice (some ⟨w.heap.size + 1 + 1 + 2, 0, none⟩) ps.length ps.length) 42 _ rfl k0 (by unfold exitV; rw [if_pos (by omega)])
    exact bodyPost_ret (v := .tuple #[.agg #[.int .i64 nx, .int .i64 gp, .slice (some ⟨w.heap.size + 1 + 1 + 2, 0, none⟩) ps.length ps.length], .int .i64 42]) (by simp [results, Tryz.results15, go_sem, hl6, c60, c61, c62]) rfl ⟨ii, k0, _, _, rfl, HI.out, HK0.out, q1, q2, fun b h => .inl h, q3⟩
  by_cases hid1 : id = 1
  · go_wp2_with fail
    obtain ⟨q1, q2, q3⟩ := BAD.out (.int .i64 nx) (.int .i64 gp) (.slice (some ⟨w.heap.size + 1 + 1 + 2, 0, none⟩) ps.length ps.length) 43 _ rfl k0 (by unfold exitV; rw [if_neg (by omega), if_pos hid1])
    exact bodyPost_ret (v := .tuple #[.agg #[.int .i64 nx, .int .i64 gp, .slice (some ⟨w.heap.size + 1 + 1 + 2, 0, none⟩) ps.length ps.length], .int .i64 43]) (by simp [results, Tryz.results15, go_sem, hl6, c60, c61, c62]) rfl ⟨ii, k0, _, _, rfl, HI.out, HK0.out, q1, q2, fun b h => .inl h, q3⟩
  have HID1 := Lib.hid hid1
  by_cases hlong : ¬ st.length ≤ 1024
  · have hld : decide (st.length ≤ 1024) = false := by simpa using hlong
    go_wp2_with (go_at_call 51; refine (short_any _ _).mono ?_; rintro e w' ⟨rfl, rfl⟩; simp only [hld])
    obtain ⟨q1, q2, q3⟩ := BAD.out (.int .i64 nx) (.int .i64 gp) (.slice (some ⟨w.heap.size + 1 + 1 + 2, 0, none⟩) ps.length ps.length) 4 _ rfl k0 (by unfold exitV; rw [if_neg (by omega), if_neg hid1, if_pos (by omega)])
    exact bodyPost_ret (v := .tuple #[.agg #[.int .i64 nx, .int .i64 gp, .slice (some ⟨w.heap.size + 1 + 1 + 2, 0, none⟩) ps.length ps.length], .int .i64 4]) (by simp [results, Tryz.results15, go_sem, hl6, c60, c61, c62]) rfl ⟨ii, k0, _, _, rfl, HI.out, HK0.out, q1, q2, fun b h => .inl h, q3⟩
  have HLG : Hid (st.length ≤ 1024) := Classical.not_not.1 hlong
  have hld : decide (st.length ≤ 1024) = true := by simpa using hlong
  have HIb := HI
  obtain ⟨ki, rfl, hkt, p, hp, hpid⟩ : ∃ k : Nat, ii = (k : Int) ∧ (∀ p ∈ ps.take k, p.id ≠ id) ∧ ∃ p, ps[k]? = some p ∧ p.id = id := by
    rcases HI.out with ⟨h, _⟩ | h
    · omega
    · exact h
  have hki : ki < ps.length := (List.getElem?_eq_some_iff.1 hp).1
  obtain ⟨AN, AW, cN, cW, hus, o1, o2, l1, l2⟩ := (HT4.out.2.1 ki p hp).1
  have r0 : w4.cell? ⟨w.heap.size + 1 + 1 + 2, ki * 13, none⟩ = some (.int .i64 p.id) := (HT4.out.cell hki (j := 0) (by omega)).trans (by rw [hus]; rfl)
  have r1 : w4.cell? ⟨w.heap.size + 1 + 1 + 2, ki * 13 + 1, none⟩ = some (.int .i64 p.parent) := (HT4.out.cell hki (j := 1) (by omega)).trans (by rw [hus]; rfl)
  have r2 : w4.cell? ⟨w.heap.size + 1 + 1 + 2, ki * 13 + 2, none⟩ = some (.int .i64 p.state) := (HT4.out.cell hki (j := 2) (by omega)).trans (by rw [hus]; rfl)
  have r3 : w4.cell? ⟨w.heap.size + 1 + 1 + 2, ki * 13 + 3, none⟩ = some (.string ⟨⟨p.user⟩⟩) := (HT4.out.cell hki (j := 3) (by omega)).trans (by rw [hus]; rfl)
  have r4 : w4.cell? ⟨w.heap.size + 1 + 1 + 2, ki * 13 + 4, none⟩ = some (.string ⟨⟨p.name⟩⟩) := (HT4.out.cell hki (j := 4) (by omega)).trans (by rw [hus]; rfl)
  have r5 : w4.cell? ⟨w.heap.size + 1 + 1 + 2, ki * 13 + 5, none⟩ = some (.int .i64 p.ns) := (HT4.out.cell hki (j := 5) (by omega)).trans (by rw [hus]; rfl)
  have r6 : w4.cell? ⟨w.heap.size + 1 + 1 + 2, ki * 13 + 6, none⟩ = some (.int .i64 p.env) := (HT4.out.cell hki (j := 6) (by omega)).trans (by rw [hus]; rfl)
  have r7 : w4.cell? ⟨w.heap.size + 1 + 1 + 2, ki * 13 + 7, none⟩ = some (.int .i64 p.fds) := (HT4.out.cell hki (j := 7) (by omega)).trans (by rw [hus]; rfl)
  have r8 : w4.cell? ⟨w.heap.size + 1 + 1 + 2, ki * 13 + 8, none⟩ = some (.string ⟨⟨p.cwd⟩⟩) := (HT4.out.cell hki (j := 8) (by omega)).trans (by rw [hus]; rfl)
  have r9 : w4.cell? ⟨w.heap.size + 1 + 1 + 2, ki * 13 + 9, none⟩ = some (.slice AN p.notes.length cN) := (HT4.out.cell hki (j := 9) (by omega)).trans (by rw [hus]; rfl)
  have r10 : w4.cell? ⟨w.heap.size + 1 + 1 + 2, ki * 13 + 10, none⟩ = some (.string ⟨⟨p.status⟩⟩) := (HT4.out.cell hki (j := 10) (by omega)).trans (by rw [hus]; rfl)
  have r11 : w4.cell? ⟨w.heap.size + 1 + 1 + 2, ki * 13 + 11, none⟩ = some (.slice AW p.waits.length cW) := (HT4.out.cell hki (j := 11) (by omega)).trans (by rw [hus]; rfl)
  have r12 : w4.cell? ⟨w.heap.size + 1 + 1 + 2, ki * 13 + 12, none⟩ = some (.bool p.alone) := (HT4.out.cell hki (j := 12) (by omega)).trans (by rw [hus]; rfl)
  have hone : ∀ v ∈ (#[.int .i64 p.id, .int .i64 p.parent, .int .i64 p.state, .string ⟨⟨p.user⟩⟩, .string ⟨⟨p.name⟩⟩, .int .i64 p.ns, .int .i64 p.env, .int .i64 p.fds, .string ⟨⟨p.cwd⟩⟩, .slice AN p.notes.length cN, .string ⟨⟨p.status⟩⟩, .slice AW p.waits.length cW, .bool p.alone] : Array Value).toList, v.oneCell' = true := procC_one (p := p) (A := AN) (B := AW) (c := cN) (d := cW)
  have hk0 : (0 : Int) ≤ (ki : Int) := by omega
  have hk1 : (ki : Int) < (ps.length : Int) := by omega
  clear o1 o2 l1 l2 hus hkt
  go_wp2_with (first | (go_at_call 51; refine (short_any _ _).mono ?_; rintro e w' ⟨rfl, rfl⟩; simp only [hld]) | (refine wpList_store_new _ rfl rfl _ _ 45 rfl 13 _ _ _ sz_proc rfl rfl rfl rfl hone ?_))
  have hb5 : ∀ o, Below w4.heap.size w4 (w4.alloc o) := fun o => (Below.refl _ _).alloc (Nat.le_refl _) _
  refine (index_any nx gp p.parent ps hn (S := fun b => b < w4.heap.size + 1) (fun b h => by simpa using h) (tab_agg (HT4.out.below (hb5 _)) nx gp (by omega) (fun b _ h _ => by omega))
    (glob_more HG.out HS.out (HBW4.out.trans ((hb5 _).mono HBW4.out.size)) (fun b h => by have := HS.out b h; have := HBW4.out.size; omega)) (exw_more HG.out HW.out HS.out (HBW4.out.trans ((hb5 _).mono HBW4.out.size)))).mono ?_
  rintro e w6 ⟨kk, rfl, hkk, hb6⟩
  simp only [World.size_alloc] at hb6
  have hsz6 : w4.heap.size + 1 ≤ w6.heap.size := by have := hb6.size; simpa using this
  have b8 : Blk w6 w2.heap.size 41 #[.int .i64 nx, .int .i64 gp, .slice (some ⟨w.heap.size + 1 + 1 + 2, 0, none⟩) ps.length ps.length] := (HB8.out.alloc _).below hb6 (by omega)
  have b6 : Blk w6 (w.heap.size + 1) 41 #[.int .i64 0, .int .i64 0, .slice none 0 0] := (HB64.out.alloc _).below hb6 (by omega)
  have b10 : Blk w6 w4.heap.size 45 #[.int .i64 id, .int .i64 p.parent, .int .i64 p.state, .string ⟨⟨p.user⟩⟩, .string ⟨⟨p.name⟩⟩, .int .i64 p.ns, .int .i64 p.env, .int .i64 p.fds, .string ⟨⟨p.cwd⟩⟩, .slice AN p.notes.length cN, .string ⟨⟨p.status⟩⟩, .slice AW p.waits.length cW, .bool p.alone] := (Blk.new w4 _ _).below hb6 (by omega)
  have tab6 : Tab ps (w.heap.size + 4) (w.heap.size + 5) w2.heap.size us lo hi w6 := (HT4.out.below (hb5 _)).fr (S := fun k => w4.heap.size + 1 ≤ k) ⟨hb6.os, hb6.tape, hb6.output, hb6.size, fun k hk hn => hb6.block k (by omega)⟩ (fun k hk => ⟨by omega, .inr (by omega)⟩)
  have hbw6 : Below w.heap.size w w6 := (HBW4.out.trans ((hb5 _).mono HBW4.out.size)).trans (hb6.mono (by have := HBW4.out.size; omega))
  have c80 : w6.cell? ⟨w2.heap.size, 0, none⟩ = some (.int .i64 nx) := b8.cell 0
  have c81 : w6.cell? ⟨w2.heap.size, 1, none⟩ = some (.int .i64 gp) := b8.cell 1
  have c82 : w6.cell? ⟨w2.heap.size, 2, none⟩ = some (.slice (some ⟨w.heap.size + 1 + 1 + 2, 0, none⟩) ps.length ps.length) := b8.cell 2
  have c60 : w6.cell? ⟨w.heap.size + 1, 0, none⟩ = some (.int .i64 0) := b6.cell 0
  have c61 : w6.cell? ⟨w.heap.size + 1, 1, none⟩ = some (.int .i64 0) := b6.cell 1
  have c62 : w6.cell? ⟨w.heap.size + 1, 2, none⟩ = some (.slice none 0 0) := b6.cell 2
  have d1 : w6.cell? ⟨w4.heap.size, 1, none⟩ = some (.int .i64 p.parent) := b10.cell 1
  have d12 : w6.cell? ⟨w4.heap.size, 12, none⟩ = some (.bool p.alone) := b10.cell 12
  have f6 := b6.frozen
  have f8 := b8.frozen
  have hl8 : w2.heap.size < w6.heap.size := by omega
  have hl6 : w.heap.size + 1 < w6.heap.size := by omega
  have HKK := Lib.hid hkk
  have B8 := Lib.hid b8
  have B6 := Lib.hid b6
  have T6 := Lib.hid tab6
  have BW6 := Lib.hid hbw6
  clear hkk b8 b6 tab6 hbw6 b10 hb6 hb5 r0 r1 r2 r3 r4 r5 r6 r7 r8 r9 r10 r11 r12
  have SUF : Hid (∀ (cc : Code) (a : Act), cc = restC → a.tmps.size = Tryz.f15.ntmps → a.defers = [] → a.tmps.getD 1 undef = .int .i64 id → a.tmps.getD 6 undef = .pointer (some ⟨w.heap.size + 1, 0, none⟩) → a.tmps.getD 8 undef = .pointer (some ⟨w2.heap.size, 0, none⟩) → a.tmps.getD 9 undef = .int .i64 (ki : Int) →
      (∀ V0, exitV nx gp ps id st (ki : Int) kk = V0 → V0 = .tup [.agg [.int .i64 nx, .int .i64 gp, .lst (procV (exitL id ki ps))], .int .i64 0]) →
      cc.wp Tryz.prog (bodyPost Tryz.prog Tryz.f15 fun e w' => ∃ (i k : Int) (S' : Nat → Prop) (y : Value), e = .returned y ∧ isIdxP ps id i ∧ (∀ p, ps[i.toNat]? = some p → isIdxP ps p.parent k) ∧ Below w.heap.size w w' ∧
      (∀ b, S' b → b < w'.heap.size ∧ (S b ∨ w.heap.size ≤ b)) ∧ (∀ b, S b → S' b) ∧ RV (fun _ => none) S' w' (exitV nx gp ps id st i k) y) a w6) := by
    show ∀ _, _
    rintro _ a rfl s1 s2 s3 s4 s5 s6 hV
    have hle := BW6.out.size
    refine suffix_wp nx gp id ps ki (w.heap.size + 1) w2.heap.size (w.heap.size + 1 + 1 + 2) _ hki hn (S := fun b => S b ∨ (w.heap.size ≤ b ∧ b < w6.heap.size ∧ b ≠ w.heap.size + 1 ∧ b ≠ w2.heap.size ∧ b ≠ w.heap.size + 1 + 1 + 2)) ?_ ⟨by omega, by omega, by omega⟩ B8.out B6.out T6.out.1 ?_ ?_ ?_ ?_ s1 s2 s3 s4 s5 s6 ?_
    · rintro b (h | h)
      · have := HS.out b h; exact ⟨by omega, by omega, by omega, by omega⟩
      · exact ⟨h.2.1, h.2.2.1, h.2.2.2.1, h.2.2.2.2⟩
    · rw [List.size_toArray, rowsL_len T6.out.sizes]
    · intro i q j v hq hv
      obtain ⟨a1, a2, a3, a4, a5⟩ := T6.out.2.1 i q hq
      obtain ⟨y, hy, hr⟩ := a1.rv (m := fun _ => none) (S := fun b => S b ∨ (w.heap.size ≤ b ∧ b < w6.heap.size ∧ b ≠ w.heap.size + 1 ∧ b ≠ w2.heap.size ∧ b ≠ w.heap.size + 1 + 1 + 2)) (fun b h1 h2 h3 => .inr ⟨by omega, h3, by omega, by omega, by omega⟩) j v hv
      have hj : j < 13 := by have := (List.getElem?_eq_some_iff.1 hv).1; simpa [Proc.v] using this
      exact ⟨y, by simpa using (rowsL_get T6.out.sizes (List.getElem?_eq_some_iff.1 hq).1 hj).trans hy, hr⟩
    · exact glob_more HG.out HS.out BW6.out fun b h => .inl h
    · exact exw_more HG.out HW.out HS.out BW6.out
    · intro a' w' y S' hd hres hfr hS1 hS2 hrv
      refine bodyPost_ret hres hd ⟨(ki : Int), kk, S', y, rfl, HIb.out, fun q hq => ?_, BW6.out.trans (hfr.below (by omega) (fun i hi => by omega)), fun b h => ?_, fun b h => hS2 b (.inl h), ?_⟩
      · rw [Int.toNat_natCast, hp] at hq; cases hq; exact HKK.out
      · obtain ⟨h1, h2⟩ := hS1 b h
        refine ⟨h1, ?_⟩
        rcases h2 with (h2 | h2) | h2 | h2 | h2 | h2
        · exact .inl h2
        · exact .inr h2.1
        · exact .inr (by omega)
        · exact .inr (by omega)
        · exact .inr (by omega)
        · exact .inr (by omega)
      · rw [hV _ rfl]; exact hrv
  rename_i K2 a2 K1 a1 K0 a0
  have fin : ∀ (a : Act), a.tmps.size = Tryz.f15.ntmps → a.defers = [] → a.tmps.getD 1 undef = .int .i64 id → a.tmps.getD 6 undef = .pointer (some ⟨w.heap.size + 1, 0, none⟩) → a.tmps.getD 8 undef = .pointer (some ⟨w2.heap.size, 0, none⟩) → a.tmps.getD 9 undef = .int .i64 (ki : Int) →
      (∀ V0, exitV nx gp ps id st (ki : Int) kk = V0 → V0 = .tup [.agg [.int .i64 nx, .int .i64 gp, .lst (procV (exitL id ki ps))], .int .i64 0]) → K2 a w6 := fun a s1 s2 s3 s4 s5 s6 s7 => a2 a w6 (SUF.out _ a (by kernel_rfl) s1 s2 s3 s4 s5 s6 s7)
  have FIN := Lib.hid fin
  have conv : ∀ (cc : Code) (Q : Exit → Act → World → Prop) (a : Act) (W : World), cc = restC → restC.wp Tryz.prog Q a W → cc.wp Tryz.prog Q a W := by
    rintro _ Q a W rfl h
    exact h
  have rest : ∀ (a : Act) (W : World), restC.wp Tryz.prog (bodyPost Tryz.prog Tryz.f15 fun e w' => ∃ (i k : Int) (S' : Nat → Prop) (y : Value), e = .returned y ∧ isIdxP ps id i ∧ (∀ p, ps[i.toNat]? = some p → isIdxP ps p.parent k) ∧ Below w.heap.size w w' ∧
      (∀ b, S' b → b < w'.heap.size ∧ (S b ∨ w.heap.size ≤ b)) ∧ (∀ b, S b → S' b) ∧ RV (fun _ => none) S' w' (exitV nx gp ps id st i k) y) a W → K2 a W := fun a W h => a2 a W (conv _ _ a W (by kernel_rfl) h)
  have HA2 := Lib.hid rest
  clear rest conv
  clear fin SUF a2
  by_cases hkneg : kk < 0
  · go_wp2_with fail
    refine FIN.out _ rfl rfl rfl rfl rfl rfl fun V0 hV => ?_
    have h1 := HID1.out
    have h2 := HLG.out
    rw [← hV]
    unfold exitV
    rw [if_neg (by omega), if_neg h1, if_neg (by omega), if_neg (by omega), Int.toNat_natCast]
  have HKb := HKK
  obtain ⟨kj, rfl, hkt2, q, hq, hqid⟩ : ∃ k : Nat, kk = (k : Int) ∧ (∀ r ∈ ps.take k, r.id ≠ p.parent) ∧ ∃ r, ps[k]? = some r ∧ r.id = p.parent := by
    rcases HKK.out with ⟨h, _⟩ | h
    · omega
    · exact h
  have hkj : kj < ps.length := (List.getElem?_eq_some_iff.1 hq).1
  obtain ⟨BN, BW, dN, dW, hus2, p1, p2, m1, m2⟩ := (T6.out.2.1 kj q hq).1
  have e11 : w6.cell? ⟨w.heap.size + 1 + 1 + 2, kj * 13 + 11, none⟩ = some (.slice BW q.waits.length dW) := (T6.out.cell hkj (j := 11) (by omega)).trans (by rw [hus2]; rfl)
  have hj0 : (0 : Int) ≤ (kj : Int) := by omega
  have hj1 : (kj : Int) < (ps.length : Int) := by omega
  have HUS := Lib.hid hus2
  have P1 := Lib.hid p1
  have P2 := Lib.hid p2
  have M1 := Lib.hid m1
  have M2 := Lib.hid m2
  clear hus2 p1 p2 m1 m2 hkt2
  rcases hal : p.alone with _ | _
  case true =>
    rw [hal] at d12
    go_wp2_with fail
    refine FIN.out _ rfl rfl rfl rfl rfl rfl fun V0 hV => ?_
    have h1 := HID1.out
    have h2 := HLG.out
    rw [← hV]
    unfold exitV
    rw [if_neg (by omega), if_neg h1, if_neg (by omega), if_neg (by rw [Int.toNat_natCast, hp]; simp [hal]), Int.toNat_natCast]
  case false =>
    rw [hal] at d12
    by_cases hlen : ¬ q.waits.length < 64
    · have hlen' : ¬ (q.waits.length : Int) < 64 := by omega
      go_wp2_with fail
      refine FIN.out _ rfl rfl rfl rfl rfl rfl fun V0 hV => ?_
      have h1 := HID1.out
      have h2 := HLG.out
      rw [← hV]
      unfold exitV
      rw [if_neg (by omega), if_neg h1, if_neg (by omega), if_neg (by rw [Int.toNat_natCast kj, hq]; simp; omega), Int.toNat_natCast]
    · have hlen' : (q.waits.length : Int) < 64 := by omega
      have hlo : lo kj ≤ hi kj ∧ hi kj ≤ w2.heap.size ∧ w.heap.size + 5 ≤ lo kj := by have := T6.out.2.1 kj q hq; omega
      have hlB : w.heap.size + 1 + 1 + 2 < w6.heap.size := by omega
      have hnew : ∀ v ∈ [Value.int .i64 id, Value.string ⟨⟨st⟩⟩], v.oneCell' = true := by simp [Value.oneCell']
      go_wp2_with fail
      have ev : exitV nx gp ps id st (ki : Int) (kj : Int) = .tup [.agg [.int .i64 nx, .int .i64 gp, .lst (procV (exitL id ki (ps.modify kj fun p => { p with waits := p.waits ++ [⟨id, st⟩] })))], .int .i64 0] := by
        have h1 := HID1.out
        have h2 := HLG.out
        unfold exitV
        rw [if_neg (by omega), if_neg h1, if_neg (by omega), if_pos (by rw [Int.toNat_natCast, Int.toNat_natCast, hp, hq]; exact ⟨by omega, by simp [hal], by simp; omega⟩), Int.toNat_natCast, Int.toNat_natCast]
      have EV := Lib.hid ev
      clear ev
      go_region_law
        ((refine step_append_x _ (by rfl) (.tmp 65) (.tmp 69) (by rfl) slW (by rfl) ((P2.out.alloc (.cells #[.int .i64 id, .string ⟨⟨st⟩⟩] 129)).drew) (by rfl) ((reads_two w6 129 (.int .i64 id) (.string ⟨⟨st⟩⟩)).drew) (by simp) hnew (by omega) (by simp; omega) ?_
          intro A2 c2 w8 hown2 hfr2 hat2
          have hBW : ∀ g, BW = some ⟨g, 0, none⟩ → lo kj ≤ g ∧ g < hi kj := fun g hg => ⟨(P2.out.lt hg).1, M2.out g 0 hg⟩
          have b8w : Blk w8 w2.heap.size 41 #[.int .i64 nx, .int .i64 gp, .slice (some ⟨w.heap.size + 1 + 1 + 2, 0, none⟩) ps.length ps.length] := ((B8.out.alloc _).drew).fr hfr2 (fun e => by have := hBW _ e; omega)
          have bBw : Blk w8 (w.heap.size + 1 + 1 + 2) 45 (rowsL us ps.length).toArray := ((Blk.alloc (g := w.heap.size + 1 + 1 + 2) T6.out.1 _).drew).fr hfr2 (fun e => by have := hBW _ e; omega)
          have k1 : w8.cell? ⟨w2.heap.size, 2, none⟩ = some (.slice (some ⟨w.heap.size + 1 + 1 + 2, 0, none⟩) ps.length ps.length) := b8w.cell 2
          have k2 : w8.cell? ⟨w.heap.size + 1 + 1 + 2, kj * 13 + 11, none⟩ = some (.slice BW q.waits.length dW) := (bBw.cell _).trans (((show Blk w6 (w.heap.size + 1 + 1 + 2) 45 (rowsL us ps.length).toArray from T6.out.1).cell _).symm.trans e11)
          have k3 := bBw.frozen
          have HO2 := Lib.hid hown2
          have HF2 := Lib.hid hfr2
          have HA := Lib.hid hat2
          have HBB := Lib.hid bBw
          have HB88 := Lib.hid b8w
          clear hown2 hfr2 hat2 bBw b8w))
      all_goals
        have hBW : ∀ g, BW = some ⟨g, 0, none⟩ → lo kj ≤ g ∧ g < hi kj := fun g hg => ⟨(P2.out.lt hg).1, M2.out g 0 hg⟩
        refine HA2.out _ _ (append_suffix ps nx gp id st HS.out HG.out HW.out hn ki kj (w.heap.size + 1) w2.heap.size (w.heap.size + 1 + 1 + 2) (w.heap.size + 5) T6.out hki ⟨by omega, by omega, by omega, by omega, by omega⟩ BW6.out hq HUS.out P1.out P2.out M1.out M2.out
          (((Below.refl _ _).alloc (Nat.le_refl _) _).drew) HO2.out HF2.out HA.out HB88.out (((B6.out.alloc _).drew).fr HF2.out (fun e => by have := hBW _ e; omega)) HBB.out rfl rfl rfl rfl rfl rfl ?_)
        intro a' w' x' S' hd hres hbel hS1 hS2 hrv
        refine bodyPost_ret hres hd ⟨(ki : Int), (kj : Int), S', x', rfl, HIb.out, fun r hr => ?_, hbel, hS1, hS2, ?_⟩
        · rw [Int.toNat_natCast, hp] at hr; cases hr; exact HKb.out
        · rw [EV.out]; exact hrv
end Go.Proofs.YthhpdnlfhofanaaGreatDoor
namespace Go.Proofs.YthhpdnlfhofanaaGreatDoor
open Go.RowKit
set_option maxRecDepth 100000
set_option linter.unusedVariables false
set_option linter.unusedSimpArgs false
/-- Rows read back as what they were made of. -/
def unS : List (List V) → Option (List (List UInt8))
  | [] => some []
  | [.str s] :: t => (unS t).map (s :: ·)
  | _ => none
def unW : List (List V) → Option (List Wait)
  | [] => some []
  | [.int .i64 i, .str s] :: t => (unW t).map (⟨i, s⟩ :: ·)
  | _ => none
def unR : List V → Option Proc
  | [.int .i64 a, .int .i64 b, .int .i64 c, .str d, .str e, .int .i64 f, .int .i64 g, .int .i64 h, .str i, .lst ns, .str j, .lst ws, .bool k] => (unS ns).bind fun ns => (unW ws).map fun ws => ⟨a, b, c, d, e, f, g, h, i, ns, j, ws, k⟩
  | _ => none
def unP : List (List V) → Option (List Proc)
  | [] => some []
  | r :: t => (unR r).bind fun p => (unP t).map (p :: ·)
theorem unS_of : ∀ (l : List (List UInt8)), unS (strV l) = some l
  | [] => rfl
  | s :: t => by
    show (unS (strV t)).map (s :: ·) = _
    rw [unS_of t]; rfl
theorem unW_of : ∀ (l : List Wait), unW (waitV l) = some l
  | [] => rfl
  | s :: t => by
    show (unW (waitV t)).map (⟨s.id, s.status⟩ :: ·) = _
    rw [unW_of t]; rfl
theorem unR_of (p : Proc) : unR p.v = some p := by
  show ((unS (strV p.notes)).bind fun ns => (unW (waitV p.waits)).map fun ws => (⟨p.id, p.parent, p.state, p.user, p.name, p.ns, p.env, p.fds, p.cwd, ns, p.status, ws, p.alone⟩ : Proc)) = _
  rw [unS_of, unW_of]; rfl
theorem unP_of : ∀ (l : List Proc), unP (procV l) = some l
  | [] => rfl
  | p :: t => by
    show ((unR p.v).bind fun p => (unP (procV t)).map (p :: ·)) = _
    rw [unR_of, unP_of t]; rfl
theorem unS_inv : ∀ {xs : List (List V)} {l : List (List UInt8)}, unS xs = some l → xs = strV l
  | [], l, h => by simp [unS] at h; subst h; rfl
  | r :: t, l, h => by
    unfold unS at h
    split at h
    · rename_i e; cases e
    · rename_i s t' e
      injection e with e1 e2
      subst e1; subst e2
      obtain ⟨l', h', rfl⟩ := Option.map_eq_some_iff.1 h
      rw [unS_inv h']; rfl
    · cases h
theorem unW_inv : ∀ {xs : List (List V)} {l : List Wait}, unW xs = some l → xs = waitV l
  | [], l, h => by simp [unW] at h; subst h; rfl
  | r :: t, l, h => by
    unfold unW at h
    split at h
    · rename_i e; cases e
    · rename_i i s t' e
      injection e with e1 e2
      subst e1; subst e2
      obtain ⟨l', h', rfl⟩ := Option.map_eq_some_iff.1 h
      rw [unW_inv h']; rfl
    · cases h
theorem unR_inv {r : List V} {p : Proc} (h : unR r = some p) : r = p.v := by
  unfold unR at h
  split at h
  · obtain ⟨ns, h1, h⟩ := Option.bind_eq_some_iff.1 h
    obtain ⟨ws, h2, rfl⟩ := Option.map_eq_some_iff.1 h
    rw [unS_inv h1, unW_inv h2]; rfl
  · cases h
theorem unP_inv : ∀ {xs : List (List V)} {l : List Proc}, unP xs = some l → xs = procV l
  | [], l, h => by simp [unP] at h; subst h; rfl
  | r :: t, l, h => by
    unfold unP at h
    obtain ⟨p, h1, h⟩ := Option.bind_eq_some_iff.1 h
    obtain ⟨l', h', rfl⟩ := Option.map_eq_some_iff.1 h
    rw [unR_inv h1, unP_inv h']; rfl
def idxF : List Proc → Int → Int
  | [], _ => -1
  | p :: t, id => if p.id = id then 0 else if idxF t id < 0 then -1 else idxF t id + 1
theorem idxF_of : ∀ {l : List Proc} {id i : Int}, isIdxP l id i → i = idxF l id
  | [], id, i, h => by
    rcases h with ⟨rfl, _⟩ | ⟨k, _, _, p, hp, _⟩
    · rfl
    · simp at hp
  | p :: t, id, i, h => by
    unfold idxF
    rcases h with ⟨rfl, hno⟩ | ⟨k, rfl, hk, q, hq, hid⟩
    · rw [if_neg (hno p (List.mem_cons_self ..))]
      have := idxF_of (l := t) (id := id) (i := -1) (.inl ⟨rfl, fun q hq => hno q (List.mem_cons_of_mem _ hq)⟩)
      rw [if_pos (by omega)]
    · match k, hk, hq with
      | 0, _, hq =>
        simp at hq; subst hq
        rw [if_pos hid]; rfl
      | k + 1, hk, hq =>
        rw [List.take_succ_cons] at hk
        rw [if_neg (hk p (List.mem_cons_self ..))]
        have := idxF_of (l := t) (id := id) (i := (k : Int)) (.inr ⟨k, rfl, fun r hr => hk r (List.mem_cons_of_mem _ hr), q, by simpa using hq, hid⟩)
        rw [← this, if_neg (by omega)]; omega
def exitOk (xs : List (List V)) : Bool := match unP xs with
  | some ps => decide (0 < ps.length) && decide (ps.length ≤ 70) && ps.all fun p => decide (p.notes.length ≤ 100000) && decide (p.waits.length ≤ 100000)
  | none => false
def exitK (ps : List Proc) (id : Int) : Int := match ps[(idxF ps id).toNat]? with
  | some p => idxF ps p.parent
  | none => 0
def exitL2 (ps : List Proc) (id : Int) (st : List UInt8) : List Proc :=
  if idxF ps id < 0 then ps else if id = 1 then ps else if 1024 < st.length then ps
  else exitL id (idxF ps id).toNat (if 0 ≤ exitK ps id ∧ (ps[(idxF ps id).toNat]?.map Proc.alone) = some false ∧ ((ps[(exitK ps id).toNat]?.map fun p => p.waits.length).getD 64) < 64 then ps.modify (exitK ps id).toNat (fun p => { p with waits := p.waits ++ [⟨id, st⟩] }) else ps)
def exitE (xs : List (List V)) (id : Int) (st : List UInt8) : Int := match unP xs with
  | some ps => if idxF ps id < 0 then 42 else if id = 1 then 43 else if 1024 < st.length then 4 else 0
  | none => 0
def exitX (xs : List (List V)) (id : Int) (st : List UInt8) : List (List V) := match unP xs with
  | some ps => procV (exitL2 ps id st)
  | none => []
theorem exitV_eq (nx gp : Int) (ps : List Proc) (id : Int) (st : List UInt8) : exitV nx gp ps id st (idxF ps id) (exitK ps id) = .tup [.agg [.int .i64 nx, .int .i64 gp, .lst (exitX (procV ps) id st)], .int .i64 (exitE (procV ps) id st)] := by
  unfold exitV exitX exitE
  rw [unP_of]
  simp only [exitL2]
  split
  · rfl
  · split
    · rfl
    · split
      · rfl
      · rfl
def exitPrim : List V → Option (Bool × V)
  | [.agg [.int .i64 nx, .int .i64 gp, .lst xs], .int .i64 id, .str st] => some (exitOk xs, .tup [.agg [.int .i64 nx, .int .i64 gp, .lst (exitX xs id st)], .int .i64 (exitE xs id st)])
  | _ => none
theorem exit_prim [MaxL] : PrimOk Tryz.prog glM 15 exitPrim := by
  intro vs r h S w xs hS hx hgl hew
  unfold exitPrim at h
  split at h
  · rename_i nx gp ys id st
    simp only [Option.some.injEq, Prod.mk.injEq] at h
    obtain ⟨hg, rfl⟩ := h
    unfold exitOk at hg
    split at hg
    · rename_i ps hps
      obtain rfl := unP_inv hps
      simp only [Bool.and_eq_true, decide_eq_true_eq, List.all_eq_true] at hg
      obtain ⟨⟨h0, hn⟩, hl⟩ := hg
      obtain ⟨x0, xs, rfl, g0, hx⟩ := hx.cons_inv
      obtain ⟨x1, xs, rfl, g1, hx⟩ := hx.cons_inv
      obtain ⟨x2, xs, rfl, g2, hx⟩ := hx.cons_inv
      obtain rfl := hx.nil_inv
      cases g1; cases g2
      obtain ⟨zs, rfl, hz⟩ := g0.agg_inv
      obtain ⟨z0, zs, rfl, k0, hz⟩ := RVs.cons_inv hz
      obtain ⟨z1, zs, rfl, k1, hz⟩ := RVs.cons_inv hz
      obtain ⟨z2, zs, rfl, k2, hz⟩ := RVs.cons_inv hz
      obtain rfl := RVs.nil_inv hz
      cases k0; cases k1
      refine (exit_raw ps nx gp id st hS k2 hn h0 (fun p hp => hl p hp) hgl hew).mono ?_
      rintro e w' ⟨i, k, S', y, rfl, hi, hk, hb, h1, h2, hrv⟩
      refine ⟨S', y, rfl, ⟨hb.os, hb.tape, hb.output, hb.size, fun b h _ => hb.block b h, (fun s r h => by cases h), (fun s b h => by cases h), (fun s s' b b' r r' _ h => by cases h), (fun s b r h => by cases h), fun b h => (h1 b h).1, fun b h => (h1 b h).2.elim .inl (fun q => .inr (.inl q)), h2⟩, ?_⟩
      have ei := idxF_of hi
      subst ei
      rw [← exitV_eq]
      by_cases hq : ∃ p, ps[(idxF ps id).toNat]? = some p
      · obtain ⟨p, hp⟩ := hq
        have ek := idxF_of (hk p hp)
        have : exitK ps id = k := by unfold exitK; rw [hp]; exact ek.symm
        rw [this]; exact hrv
      · have hneg : idxF ps id < 0 := by
          rcases hi with ⟨e, _⟩ | ⟨j, e, _, p, hp, _⟩
          · omega
          · exact absurd ⟨p, by rw [e]; simpa using hp⟩ hq
        unfold exitV at hrv ⊢
        rw [if_pos hneg] at hrv ⊢
        exact hrv
    · cases hg
  · cases h
end Go.Proofs.YthhpdnlfhofanaaGreatDoor
