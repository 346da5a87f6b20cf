/- Memory that a call owns, frames, and the law on append. -/
import Derived.Test.YthhpdnlfhofanaaGreatDoorEvA
import Derived.Maps.AppendAt
import Derived.Test.YthhpdnlfhofanaaGreatDoorPtBase
import Derived.Test.YthhpdnlfhofanaaGreatDoorEvF
import Derived.Lib.SliceRun
namespace Go.Proofs.YthhpdnlfhofanaaGreatDoor
open Go.RowKit

/-- w' is w but for the blocks in S, and new ones. -/
structure Fr (S : Nat → Prop) (w w' : World) : Prop where
  os : w'.os = w.os
  tape : w'.tape = w.tape
  output : w'.output = w.output
  size : w.heap.size ≤ w'.heap.size
  block : ∀ k, k < w.heap.size → ¬ S k → w'.heap[k]? = w.heap[k]?

section
variable {S S' : Nat → Prop} {w w' w'' a : World} {B : Nat}
theorem Fr.refl (S : Nat → Prop) (w : World) : Fr S w w := ⟨rfl, rfl, rfl, Nat.le_refl _, fun _ _ _ => rfl⟩
theorem Fr.trans (h : Fr S w w') (k : Fr S' w' w'') (hs : ∀ i, i < w.heap.size → S' i → S i) : Fr S w w'' :=
  ⟨k.os.trans h.os, k.tape.trans h.tape, k.output.trans h.output, Nat.le_trans h.size k.size,
    fun i hi hn => (k.block i (Nat.lt_of_lt_of_le hi h.size) (fun e => hn (hs i hi e))).trans (h.block i hi hn)⟩
theorem Fr.mono (h : Fr S w w') (hs : ∀ i, i < w.heap.size → S i → S' i) : Fr S' w w' :=
  ⟨h.os, h.tape, h.output, h.size, fun i hi hn => h.block i hi (fun e => hn (hs i hi e))⟩
theorem Fr.below (h : Fr S w w') (hB : B ≤ w.heap.size) (hs : ∀ i, S i → B ≤ i) : Below B w w' :=
  ⟨h.os, h.tape, h.output, h.size, fun i hi => h.block i (by omega) (fun e => by have := hs i e; omega)⟩
theorem Fr.of_below (h : Below B w w') : Fr (fun i => B ≤ i) w w' :=
  ⟨h.os, h.tape, h.output, h.size, fun i _ hn => h.block i (by omega)⟩
theorem Fr.of_new (h : Below w.heap.size w w') (S : Nat → Prop) : Fr S w w' :=
  ⟨h.os, h.tape, h.output, h.size, fun i hi _ => h.block i hi⟩
theorem Fr.of_grown {row : Option Nat} (h : w.grownBy w' row) : Fr (fun i => row = some i) w w' :=
  ⟨h.os, h.tape, h.output, h.size, fun i hi hn => h.block i hi (fun e => hn e.symm)⟩
theorem Fr.alloc (h : Fr S w w') (o : Obj) : Fr S w (w'.alloc o) :=
  ⟨h.os, h.tape, h.output, by have := h.size; simp; omega, fun k hk hn => (Below.heap_alloc _ _ _ (by have := h.size; omega)).trans (h.block k hk hn)⟩
theorem Fr.setCell (h : Fr S w w') {p : Addr} (hp : w.heap.size ≤ p.block ∨ S p.block) (u : Value) : Fr S w (w'.setCell p u) :=
  ⟨h.os, h.tape, h.output, by have := h.size; simp [World.setCell]; omega, fun k hk hn => (Below.heap_setCell _ _ _ _ (by rintro rfl; rcases hp with hp | hp; omega; exact hn hp)).trans (h.block k hk hn)⟩
theorem Fr.drew (h : Fr S w w') : Fr S w w'.drew := ⟨h.os, h.tape, h.output, h.size, h.block⟩
theorem Fr.drewN (h : Fr S w w') (n : Nat) : Fr S w (w'.drewN n) := ⟨h.os, h.tape, h.output, h.size, h.block⟩
theorem Fr.cell (h : Fr S w w') {p : Addr} (hp : p.block < w.heap.size) (hn : ¬ S p.block) : w'.cell? p = w.cell? p := World.cell?_of_block (w := w) (h.block _ hp hn)
theorem below_drewN (h : Below B a w) (n : Nat) : Below B a (w.drewN n) := ⟨h.os, h.tape, h.output, h.size, h.block⟩
end

/-- Block g is just the cells cs of element type t, none frozen. -/
def Blk (w : World) (g : Nat) (t : TypeId) (cs : Array Value) : Prop := w.heap[g]? = some (.cells cs t (0, 0))
section
variable {w w' : World} {g : Nat} {t : TypeId} {cs : Array Value} {S : Nat → Prop}
theorem Blk.lt (h : Blk w g t cs) : g < w.heap.size := by
  rcases Nat.lt_or_ge g w.heap.size with hlt | hge
  · exact hlt
  · unfold Blk at h; rw [Array.getElem?_eq_none hge] at h; cases h
theorem Blk.cell (h : Blk w g t cs) (i : Nat) : w.cell? ⟨g, i, none⟩ = cs[i]? := cell_of_row w g i cs t (0, 0) h
theorem Blk.frozen (h : Blk w g t cs) (i : Nat) : w.frozen? ⟨g, i, none⟩ = false := by
  unfold Blk at h
  simp [World.frozen?, h]
theorem Blk.new (w : World) (t : TypeId) (cs : Array Value) : Blk (w.alloc (.cells cs t)) w.heap.size t cs := heap_alloc_new w _
theorem Blk.new' (w : World) (t : TypeId) (cs : Array Value) {g : Nat} (hg : g = w.heap.size) : Blk (w.alloc (.cells cs t)) g t cs := by subst hg; exact Blk.new w t cs
theorem Blk.drew (h : Blk w g t cs) : Blk w.drew g t cs := h
theorem Blk.drewN (h : Blk w g t cs) (n : Nat) : Blk (w.drewN n) g t cs := h
theorem Blk.alloc (h : Blk w g t cs) (o : Obj) : Blk (w.alloc o) g t cs := (Below.heap_alloc w o g h.lt).trans h
theorem Blk.set_ (h : Blk w g t cs) (i : Nat) (u : Value) : Blk (w.setCell ⟨g, i, none⟩ u) g t (cs.setIfInBounds i u) := by
  unfold Blk at h ⊢
  simp [World.setCell, Array.getElem?_modify, h]
theorem Blk.far (h : Blk w g t cs) {p : Addr} (hp : g ≠ p.block) (u : Value) : Blk (w.setCell p u) g t cs := (Below.heap_setCell w p u g hp).trans h
theorem Blk.below {B : Nat} (h : Blk w g t cs) (hb : Below B w w') (hg : g < B) : Blk w' g t cs := (hb.block g hg).trans h
theorem Blk.fr (h : Blk w g t cs) (hb : Fr S w w') (hg : ¬ S g) : Blk w' g t cs := (hb.block g h.lt hg).trans h
theorem Blk.c1 {v0 : Value} (h : Blk w g t #[v0]) : w.cell? ⟨g, 0, none⟩ = some v0 ∧ ∀ i, w.frozen? ⟨g, i, none⟩ = false :=
  ⟨h.cell 0, h.frozen⟩
theorem Blk.c2 {v0 v1 : Value} (h : Blk w g t #[v0, v1]) : w.cell? ⟨g, 0, none⟩ = some v0 ∧ w.cell? ⟨g, 1, none⟩ = some v1 ∧ ∀ i, w.frozen? ⟨g, i, none⟩ = false :=
  ⟨h.cell 0, h.cell 1, h.frozen⟩
theorem Blk.c3 {v0 v1 v2 : Value} (h : Blk w g t #[v0, v1, v2]) : w.cell? ⟨g, 0, none⟩ = some v0 ∧ w.cell? ⟨g, 1, none⟩ = some v1 ∧ w.cell? ⟨g, 2, none⟩ = some v2 ∧ ∀ i, w.frozen? ⟨g, i, none⟩ = false :=
  ⟨h.cell 0, h.cell 1, h.cell 2, h.frozen⟩
theorem Blk.c4 {v0 v1 v2 v3 : Value} (h : Blk w g t #[v0, v1, v2, v3]) : w.cell? ⟨g, 0, none⟩ = some v0 ∧ w.cell? ⟨g, 1, none⟩ = some v1 ∧ w.cell? ⟨g, 2, none⟩ = some v2 ∧ w.cell? ⟨g, 3, none⟩ = some v3 ∧ ∀ i, w.frozen? ⟨g, i, none⟩ = false :=
  ⟨h.cell 0, h.cell 1, h.cell 2, h.cell 3, h.frozen⟩
theorem Blk.c5 {v0 v1 v2 v3 v4 : Value} (h : Blk w g t #[v0, v1, v2, v3, v4]) : w.cell? ⟨g, 0, none⟩ = some v0 ∧ w.cell? ⟨g, 1, none⟩ = some v1 ∧ w.cell? ⟨g, 2, none⟩ = some v2 ∧ w.cell? ⟨g, 3, none⟩ = some v3 ∧ w.cell? ⟨g, 4, none⟩ = some v4 ∧ ∀ i, w.frozen? ⟨g, i, none⟩ = false :=
  ⟨h.cell 0, h.cell 1, h.cell 2, h.cell 3, h.cell 4, h.frozen⟩
theorem Blk.c6 {v0 v1 v2 v3 v4 v5 : Value} (h : Blk w g t #[v0, v1, v2, v3, v4, v5]) : w.cell? ⟨g, 0, none⟩ = some v0 ∧ w.cell? ⟨g, 1, none⟩ = some v1 ∧ w.cell? ⟨g, 2, none⟩ = some v2 ∧ w.cell? ⟨g, 3, none⟩ = some v3 ∧ w.cell? ⟨g, 4, none⟩ = some v4 ∧ w.cell? ⟨g, 5, none⟩ = some v5 ∧ ∀ i, w.frozen? ⟨g, i, none⟩ = false :=
  ⟨h.cell 0, h.cell 1, h.cell 2, h.cell 3, h.cell 4, h.cell 5, h.frozen⟩
theorem Blk.c7 {v0 v1 v2 v3 v4 v5 v6 : Value} (h : Blk w g t #[v0, v1, v2, v3, v4, v5, v6]) : w.cell? ⟨g, 0, none⟩ = some v0 ∧ w.cell? ⟨g, 1, none⟩ = some v1 ∧ w.cell? ⟨g, 2, none⟩ = some v2 ∧ w.cell? ⟨g, 3, none⟩ = some v3 ∧ w.cell? ⟨g, 4, none⟩ = some v4 ∧ w.cell? ⟨g, 5, none⟩ = some v5 ∧ w.cell? ⟨g, 6, none⟩ = some v6 ∧ ∀ i, w.frozen? ⟨g, i, none⟩ = false :=
  ⟨h.cell 0, h.cell 1, h.cell 2, h.cell 3, h.cell 4, h.cell 5, h.cell 6, h.frozen⟩
theorem Blk.c8 {v0 v1 v2 v3 v4 v5 v6 v7 : Value} (h : Blk w g t #[v0, v1, v2, v3, v4, v5, v6, v7]) : w.cell? ⟨g, 0, none⟩ = some v0 ∧ w.cell? ⟨g, 1, none⟩ = some v1 ∧ w.cell? ⟨g, 2, none⟩ = some v2 ∧ w.cell? ⟨g, 3, none⟩ = some v3 ∧ w.cell? ⟨g, 4, none⟩ = some v4 ∧ w.cell? ⟨g, 5, none⟩ = some v5 ∧ w.cell? ⟨g, 6, none⟩ = some v6 ∧ w.cell? ⟨g, 7, none⟩ = some v7 ∧ ∀ i, w.frozen? ⟨g, i, none⟩ = false :=
  ⟨h.cell 0, h.cell 1, h.cell 2, h.cell 3, h.cell 4, h.cell 5, h.cell 6, h.cell 7, h.frozen⟩
theorem Blk.c9 {v0 v1 v2 v3 v4 v5 v6 v7 v8 : Value} (h : Blk w g t #[v0, v1, v2, v3, v4, v5, v6, v7, v8]) : w.cell? ⟨g, 0, none⟩ = some v0 ∧ w.cell? ⟨g, 1, none⟩ = some v1 ∧ w.cell? ⟨g, 2, none⟩ = some v2 ∧ w.cell? ⟨g, 3, none⟩ = some v3 ∧ w.cell? ⟨g, 4, none⟩ = some v4 ∧ w.cell? ⟨g, 5, none⟩ = some v5 ∧ w.cell? ⟨g, 6, none⟩ = some v6 ∧ w.cell? ⟨g, 7, none⟩ = some v7 ∧ w.cell? ⟨g, 8, none⟩ = some v8 ∧ ∀ i, w.frozen? ⟨g, i, none⟩ = false :=
  ⟨h.cell 0, h.cell 1, h.cell 2, h.cell 3, h.cell 4, h.cell 5, h.cell 6, h.cell 7, h.cell 8, h.frozen⟩
theorem Blk.c10 {v0 v1 v2 v3 v4 v5 v6 v7 v8 v9 : Value} (h : Blk w g t #[v0, v1, v2, v3, v4, v5, v6, v7, v8, v9]) : w.cell? ⟨g, 0, none⟩ = some v0 ∧ w.cell? ⟨g, 1, none⟩ = some v1 ∧ w.cell? ⟨g, 2, none⟩ = some v2 ∧ w.cell? ⟨g, 3, none⟩ = some v3 ∧ w.cell? ⟨g, 4, none⟩ = some v4 ∧ w.cell? ⟨g, 5, none⟩ = some v5 ∧ w.cell? ⟨g, 6, none⟩ = some v6 ∧ w.cell? ⟨g, 7, none⟩ = some v7 ∧ w.cell? ⟨g, 8, none⟩ = some v8 ∧ w.cell? ⟨g, 9, none⟩ = some v9 ∧ ∀ i, w.frozen? ⟨g, i, none⟩ = false :=
  ⟨h.cell 0, h.cell 1, h.cell 2, h.cell 3, h.cell 4, h.cell 5, h.cell 6, h.cell 7, h.cell 8, h.cell 9, h.frozen⟩
theorem Blk.c11 {v0 v1 v2 v3 v4 v5 v6 v7 v8 v9 v10 : Value} (h : Blk w g t #[v0, v1, v2, v3, v4, v5, v6, v7, v8, v9, v10]) : w.cell? ⟨g, 0, none⟩ = some v0 ∧ w.cell? ⟨g, 1, none⟩ = some v1 ∧ w.cell? ⟨g, 2, none⟩ = some v2 ∧ w.cell? ⟨g, 3, none⟩ = some v3 ∧ w.cell? ⟨g, 4, none⟩ = some v4 ∧ w.cell? ⟨g, 5, none⟩ = some v5 ∧ w.cell? ⟨g, 6, none⟩ = some v6 ∧ w.cell? ⟨g, 7, none⟩ = some v7 ∧ w.cell? ⟨g, 8, none⟩ = some v8 ∧ w.cell? ⟨g, 9, none⟩ = some v9 ∧ w.cell? ⟨g, 10, none⟩ = some v10 ∧ ∀ i, w.frozen? ⟨g, i, none⟩ = false :=
  ⟨h.cell 0, h.cell 1, h.cell 2, h.cell 3, h.cell 4, h.cell 5, h.cell 6, h.cell 7, h.cell 8, h.cell 9, h.cell 10, h.frozen⟩
theorem Blk.c12 {v0 v1 v2 v3 v4 v5 v6 v7 v8 v9 v10 v11 : Value} (h : Blk w g t #[v0, v1, v2, v3, v4, v5, v6, v7, v8, v9, v10, v11]) : w.cell? ⟨g, 0, none⟩ = some v0 ∧ w.cell? ⟨g, 1, none⟩ = some v1 ∧ w.cell? ⟨g, 2, none⟩ = some v2 ∧ w.cell? ⟨g, 3, none⟩ = some v3 ∧ w.cell? ⟨g, 4, none⟩ = some v4 ∧ w.cell? ⟨g, 5, none⟩ = some v5 ∧ w.cell? ⟨g, 6, none⟩ = some v6 ∧ w.cell? ⟨g, 7, none⟩ = some v7 ∧ w.cell? ⟨g, 8, none⟩ = some v8 ∧ w.cell? ⟨g, 9, none⟩ = some v9 ∧ w.cell? ⟨g, 10, none⟩ = some v10 ∧ w.cell? ⟨g, 11, none⟩ = some v11 ∧ ∀ i, w.frozen? ⟨g, i, none⟩ = false :=
  ⟨h.cell 0, h.cell 1, h.cell 2, h.cell 3, h.cell 4, h.cell 5, h.cell 6, h.cell 7, h.cell 8, h.cell 9, h.cell 10, h.cell 11, h.frozen⟩
theorem Blk.ne_ {g' : Nat} {t' : TypeId} {cs' : Array Value} (h : Blk w g t cs) (h' : Blk w g' t' cs') (hne : t ≠ t') : g ≠ g' := by
  rintro rfl
  unfold Blk at h h'
  rw [h] at h'
  injection h' with h'
  injection h' with _ ht
  exact hne ht
end

/-- The slice (A, n, c) of elements of type e owns the cells xs: it is nil, or begins a block from 'base' on that nobody else writes. -/
def Own (w : World) (base : Nat) (e : TypeId) (size : Nat) (A : Option Addr) (n c : Nat) (xs : List Value) : Prop :=
  w.ownsRow base e size (.slice A n c) n xs
section
variable {w w' : World} {base base' : Nat} {e : TypeId} {size n c : Nat} {A : Option Addr} {xs : List Value} {S : Nat → Prop}
theorem Own.none_ (w : World) (base : Nat) (e : TypeId) (size : Nat) : Own w base e size none 0 0 [] := World.ownsRow_nil _ _ _ _
theorem Own.reads (h : Own w base e size A n c xs) : Reads w w.heap.size size A n xs := Reads.of_own h
theorem Own.length (h : Own w base e size A n c xs) : xs.length = n * size := h.1
theorem Own.cases (h : Own w base e size A n c xs) : (A = none ∧ n = 0 ∧ c = 0) ∨
    ∃ g cur, A = some ⟨g, 0, none⟩ ∧ base ≤ g ∧ g < w.heap.size ∧ w.heap[g]? = some (.cells cur e (0, 0)) ∧ n ≤ c ∧ c ≤ Go.maxLen ∧ cur.size = c * size ∧ cur.toList.take (n * size) = xs := by
  rcases h.2 with ⟨hv, hn⟩ | ⟨g, cap, cur, hv, hb, hg, h1, h2, h3, h4⟩
  · injection hv with e1 e2 e3
    exact .inl ⟨e1, hn, e3⟩
  · injection hv with e1 e2 e3
    subst e3
    exact .inr ⟨g, cur, e1, hb, (Array.getElem?_eq_some_iff.1 hg).1, hg, h1, h2, h3, h4⟩
theorem Own.cap (h : Own w base e size A n c xs) : n ≤ c ∧ c ≤ Go.maxLen := by
  rcases h.cases with ⟨_, rfl, rfl⟩ | ⟨g, cur, _, _, _, _, h1, h2, _⟩
  · exact ⟨Nat.le_refl _, Nat.zero_le _⟩
  · exact ⟨h1, h2⟩
theorem Own.lt (h : Own w base e size A n c xs) {g off : Nat} (hA : A = some ⟨g, off, none⟩) : base ≤ g ∧ g < w.heap.size ∧ off = 0 := by
  rcases h.cases with ⟨rfl, _⟩ | ⟨g', cur, rfl, hb, hl, _⟩
  · cases hA
  · injection hA with hA
    injection hA with e1 e2
    subst e1
    exact ⟨hb, hl, e2.symm⟩
theorem Own.fr (h : Own w base e size A n c xs) (hf : Fr S w w') (hn : ∀ g off, A = some ⟨g, off, none⟩ → ¬ S g) : Own w' base e size A n c xs := by
  refine ⟨h.1, ?_⟩
  rcases h.cases with ⟨rfl, rfl, rfl⟩ | ⟨g, cur, rfl, hb, hl, hg, r1, r2, r3, r4⟩
  · exact .inl ⟨rfl, rfl⟩
  · exact .inr ⟨g, c, cur, rfl, hb, (hf.block g hl (hn g 0 rfl)).trans hg, r1, r2, r3, r4⟩
theorem Own.below {B : Nat} (h : Own w base e size A n c xs) (hf : Below B w w') (hn : w.heap.size ≤ B) : Own w' base e size A n c xs :=
  h.fr (Fr.of_new ⟨hf.os, hf.tape, hf.output, hf.size, fun k hk => hf.block k (by omega)⟩ (fun _ => False)) (fun _ _ _ h => h)
theorem Own.alloc (h : Own w base e size A n c xs) (o : Obj) : Own (w.alloc o) base e size A n c xs := World.ownsRow.alloc h o
theorem Own.drew (h : Own w base e size A n c xs) : Own w.drew base e size A n c xs := h
theorem Own.drewN (h : Own w base e size A n c xs) (k : Nat) : Own (w.drewN k) base e size A n c xs := h
theorem Own.setCell (h : Own w base e size A n c xs) {p : Addr} (hp : ∀ g off, A = some ⟨g, off, none⟩ → g ≠ p.block) (u : Value) : Own (w.setCell p u) base e size A n c xs :=
  h.fr (Fr.setCell (S := fun i => i = p.block) (Fr.refl _ w) (p := p) (.inr rfl) u) (fun g off hA => hp g off hA)
theorem Own.setLow (h : Own w base e size A n c xs) {p : Addr} (hp : p.block < base) (u : Value) : Own (w.setCell p u) base e size A n c xs :=
  h.setCell (fun g off hA => by have := h.lt hA; omega) u
theorem Own.low (h : Own w base e size A n c xs) (hb : base' ≤ base) : Own w base' e size A n c xs := by
  refine ⟨h.1, ?_⟩
  rcases h.cases with ⟨rfl, rfl, rfl⟩ | ⟨g, cur, rfl, hb, hl, hg, r1, r2, r3, r4⟩
  · exact .inl ⟨rfl, rfl⟩
  · exact .inr ⟨g, c, cur, rfl, by omega, hg, r1, r2, r3, r4⟩
theorem Own.ne_blk {g : Nat} {t : TypeId} {cs : Array Value} (h : Own w base e size A n c xs) (hg : Blk w g t cs) (hne : e ≠ t) : ∀ k off, A = some ⟨k, off, none⟩ → k ≠ g := by
  intro k off hA
  rcases h.cases with ⟨rfl, _⟩ | ⟨g', cur, rfl, _, _, hh, _⟩
  · cases hA
  · injection hA with hA
    injection hA with e1 _
    subst e1
    exact Blk.ne_ (t := e) hh hg hne
theorem Own.ne_own {e' size' n' c' : Nat} {A' : Option Addr} {xs' : List Value} (h : Own w base e size A n c xs) (h' : Own w base' e' size' A' n' c' xs') (hne : e ≠ e') : ∀ k off k' off', A = some ⟨k, off, none⟩ → A' = some ⟨k', off', none⟩ → k ≠ k' := by
  intro k off k' off' hA hA'
  rcases h'.cases with ⟨rfl, _⟩ | ⟨g', cur, rfl, _, _, hh, _⟩
  · cases hA'
  · injection hA' with hA'
    injection hA' with e1 _
    subst e1
    exact h.ne_blk (t := e') hh hne k off hA
/-- A store into an owned row. -/
theorem Own.stored {g : Nat} (h : Own w base e size (some ⟨g, 0, none⟩) n c xs) (j : Nat) (u : Value) :
    Own (w.setCell ⟨g, j, none⟩ u) base e size (some ⟨g, 0, none⟩) n c (xs.set j u) := (World.ownsRow.stored h j u).1
theorem Own.cellAt {g : Nat} (h : Own w base e size (some ⟨g, 0, none⟩) n c xs) (j : Nat) (hj : j < n * size) : w.cell? ⟨g, j, none⟩ = xs[j]? := World.ownsRow.cellAt h j hj
theorem Own.frozenAt {g : Nat} (h : Own w base e size (some ⟨g, 0, none⟩) n c xs) (j : Nat) : w.frozen? ⟨g, j, none⟩ = false := World.ownsRow.frozenAt h j
theorem Own.lit (w : World) (cs : Array Value) (n : Nat) (hb : base ≤ w.heap.size) (hm : n ≤ Go.maxLen) (hs : cs.size = n * size) :
    Own (w.alloc (.cells cs e)) base e size (some ⟨w.heap.size, 0, none⟩) n n cs.toList := World.ownsRow_lit w cs n hb hm hs
end

theorem below_app {w w1 w2 : World} {B base : Nat} {e : TypeId} {size n c : Nat} {A : Option Addr} {xs : List Value} (h : Below B w w1) (ho : Own w1 base e size A n c xs) (hf : Fr (fun i => A = some ⟨i, 0, none⟩) w1 w2)
    (hb : B ≤ base) (hs : B ≤ w1.heap.size) : Below B w w2 :=
  h.trans (hf.below hs (fun i hi => by have := (ho.lt hi).1; omega))

/-- Type t is a slice of e, whose elements have 'size' cells, 'bytes' bytes and the zero value z. -/
structure SlT (P : Program) (t e : TypeId) (z : Value) (size bytes : Nat) : Prop where
  ut : P.underlying t = some (.slice e)
  info : ∃ i, P.info? e = some i ∧ i.zero = some z ∧ i.size = size ∧ i.bytes = bytes
  zs : z.cells.size = size
  pos : 0 < size
  bpos : 0 < bytes

theorem SlT.mk' {P : Program} {t e : TypeId} {z : Value} {size bytes : Nat} (ut : P.underlying t = some (.slice e)) (hi : (P.info? e).map (fun i => (i.zero, i.size, i.bytes)) = some (some z, size, bytes))
    (zs : z.cells.size = size) (pos : 0 < size) (bpos : 0 < bytes) : SlT P t e z size bytes := by
  obtain ⟨i0, h0, h1, h2, h3⟩ := info_parts hi
  exact ⟨ut, ⟨i0, h0, h1, h2, h3⟩, zs, pos, bpos⟩

section
variable {P : Program} (w : World)
theorem run_append_nil_src {base : Nat} {t ty e : TypeId} {z : Value} {size bytes : Nat} (T : SlT P t e z size bytes)
    {A : Option Addr} {n cc : Nat} {xs : List Value} (hown : Own w base e size A n cc xs) (c : Nat) : (Builtin.append_ #[t, t] ty #[.slice A n cc, .slice none 0 c]).run P w = .ok (.slice A n cc) w := by
  obtain ⟨i, hi, hz, _, _⟩ := T.info
  have ht := T.ut
  rcases hown.cases with ⟨rfl, rfl, rfl⟩ | ⟨g, cur, rfl, _, _, _, hnc, _⟩
  · simp [Builtin.append_, run_underlying ht, sizeOf, typeInfo, hi, Builtin.lenOf, Builtin.firstCells]
  · simp [Builtin.append_, run_underlying ht, sizeOf, typeInfo, hi, Builtin.lenOf, Builtin.firstCells, hnc, storeCells]

/-- append(v, x...): the row v of the call's own takes the cells that x reads as. -/
theorem run_append_x {base : Nat} {t ty e : TypeId} {z : Value} {size bytes : Nat} (T : SlT P t e z size bytes)
    {A : Option Addr} {n cc : Nat} {xs : List Value} (hown : Own w base e size A n cc xs)
    {B : Nat} {A2 : Option Addr} {m c : Nat} {news : List Value} (hr : Reads w B size A2 m news) (hz : A2 = none → m = 0) (h1 : ∀ u ∈ news, u.oneCell' = true)
    (hbytes : (n + m) * bytes ≤ 140737488355328) (hbase : base ≤ w.heap.size) :
    ∃ A' c' w', (Builtin.append_ #[t, t] ty #[.slice A n cc, .slice A2 m c]).run P w = .ok (.slice A' (n + m) c') w' ∧ Own w' base e size A' (n + m) c' (xs ++ news) ∧ Fr (fun i => A = some ⟨i, 0, none⟩) w w' ∧
      (A' = A ∨ A' = some ⟨w.heap.size, 0, none⟩) := by
  obtain ⟨i, hi, hzz, hsz, hby⟩ := T.info
  have h63 : n + m ≤ Go.maxLen := by
    have : (n + m) * 1 ≤ (n + m) * bytes := Nat.mul_le_mul_left _ T.bpos
    unfold Go.maxLen; omega
  rcases A2 with _ | ad
  · have hm := hz rfl
    subst hm
    have hn : news = [] := List.eq_nil_of_length_eq_zero (by simpa using hr.1)
    subst hn
    exact ⟨A, cc, w, run_append_nil_src w T hown c, by simpa using hown, Fr.refl _ _, .inl rfl⟩
  · have hcells : ∀ j u, news[j]? = some u → w.cell? (ad.add j) = some u := by
      intro j u hu
      rcases Nat.eq_zero_or_pos m with h0 | h0
      · subst h0
        have hn : news = [] := List.eq_nil_of_length_eq_zero (by simpa using hr.1)
        subst hn
        simp at hu
      · obtain ⟨b, off, h, _, hc⟩ := hr.2 h0
        injection h with h
        subst h
        rw [Addr.add_lit]
        exact hc j u hu
    obtain ⟨v', w', hrun, h2, h3, _, h5⟩ := run_append_own_at (P := P) w base t ty e i z size bytes T.ut hi hzz hsz hby T.zs T.pos (.slice A n cc) n xs hown ad m c news hr.1 hcells h1 h63 hbytes hbase
    have hform : ∃ A' c', v' = .slice A' (n + m) c' := by
      rcases h2.2 with ⟨hv, hn⟩ | ⟨g, cap, cur, hv, _⟩
      · exact ⟨none, 0, by rw [hv, hn]⟩
      · exact ⟨_, _, hv⟩
    obtain ⟨A', c', rfl⟩ := hform
    have hA : ∀ k, (Value.slice A n cc).ownBlock = some k → A = some ⟨k, 0, none⟩ := by
      intro k hk
      rcases Own.cases hown with ⟨rfl, _⟩ | ⟨g, cur, rfl, _⟩
      · simp [Value.ownBlock] at hk
      · simp [Value.ownBlock] at hk; rw [hk]
    have hA' : ∀ k, (Value.slice A' (n + m) c').ownBlock = some k → A' = some ⟨k, 0, none⟩ := by
      intro k hk
      rcases Own.cases h2 with ⟨rfl, _⟩ | ⟨g, cur, rfl, _⟩
      · simp [Value.ownBlock] at hk
      · simp [Value.ownBlock] at hk; rw [hk]
    refine ⟨A', c', w', hrun, h2, (Fr.of_grown h3).mono (fun k _ hk => hA k hk), ?_⟩
    rcases h5 with h5 | h5
    · left
      cases hb : (Value.slice A n cc).ownBlock with
      | none =>
        rw [hb] at h5
        rcases Own.cases hown with ⟨rfl, _⟩ | ⟨g, cur, rfl, _⟩
        · rcases Own.cases h2 with ⟨rfl, _⟩ | ⟨g, cur, rfl, _⟩
          · rfl
          · simp [Value.ownBlock] at h5
        · simp [Value.ownBlock] at hb
      | some k => rw [hA k hb, hA' k (h5.trans hb)]
    · exact .inr (hA' _ h5)

theorem wp_append_x {o : Oper} {a : Act} {K : Act → World → Prop} {Q : Exit → Act → World → Prop} (s x : Operand) {t : TypeId}
    (ho : o.op = .call { callee := .builtin .append, args := #[s, x], argTypes := #[t, t] })
    {base : Nat} {e : TypeId} {z : Value} {size bytes : Nat} (T : SlT P t e z size bytes)
    {A : Option Addr} {n cc : Nat} {xs : List Value} (hs : a.eval s = .slice A n cc) (hown : Own w base e size A n cc xs)
    {B : Nat} {A2 : Option Addr} {m c : Nat} {news : List Value} (hx : a.eval x = .slice A2 m c) (hr : Reads w B size A2 m news) (hz : A2 = none → m = 0) (h1 : ∀ u ∈ news, u.oneCell' = true)
    (hbytes : (n + m) * bytes ≤ 140737488355328) (hbase : base ≤ w.heap.size)
    (h : ∀ A' c' w', Own w' base e size A' (n + m) c' (xs ++ news) → Fr (fun i => A = some ⟨i, 0, none⟩) w w' → (A' = A ∨ A' = some ⟨w.heap.size, 0, none⟩) → K (a.put o.dst (.slice A' (n + m) c')) w') : o.wp P a w K Q := by
  obtain ⟨A', c', w', hrun, h2, h3, h4⟩ := run_append_x (P := P) w (ty := o.type) T hown hr hz h1 hbytes hbase (c := c)
  unfold Oper.wp execOp
  simp only [ho, resolve, invoke, builtin, Sem.run_bind, Sem.run_pure, Result.andThen_ok, List.map_toArray, List.map_cons, List.map_nil, hs, hx, hrun]
  exact h A' c' w' h2 h3 h4

theorem wpList_append_x {ops : Array Oper} {rest : List Oper} {o : Oper} {a : Act} {Q : Exit → Act → World → Prop} (hgd : o.guard = none) (s x : Operand) {t : TypeId}
    (ho : o.op = .call { callee := .builtin .append, args := #[s, x], argTypes := #[t, t] })
    {base : Nat} {e : TypeId} {z : Value} {size bytes : Nat} (T : SlT P t e z size bytes)
    {A : Option Addr} {n cc : Nat} {xs : List Value} (hs : a.eval s = .slice A n cc) (hown : Own w base e size A n cc xs)
    {B : Nat} {A2 : Option Addr} {m c : Nat} {news : List Value} (hx : a.eval x = .slice A2 m c) (hr : Reads w B size A2 m news) (hz : A2 = none → m = 0) (h1 : ∀ u ∈ news, u.oneCell' = true)
    (hbytes : (n + m) * bytes ≤ 140737488355328) (hbase : base ≤ w.heap.size)
    (h : ∀ A' c' w', Own w' base e size A' (n + m) c' (xs ++ news) → Fr (fun i => A = some ⟨i, 0, none⟩) w w' → (A' = A ∨ A' = some ⟨w.heap.size, 0, none⟩) → wpList P ops Q rest (a.put o.dst (.slice A' (n + m) c')) w') : wpList P ops Q (o :: rest) a w :=
  wpList_plain hgd fun _ hK => wp_append_x w s x ho T hs hown hx hr hz h1 hbytes hbase fun A' c' w' h2 h3 h4 => hK _ _ (h A' c' w' h2 h3 h4)
end
section
variable {P : Program} (w : World)
theorem step_append_x {ops : Array Oper} {o : Oper} {a : Act} {K : Act → World → Prop} {Q : Exit → Act → World → Prop} {E : Prop} (hgd : o.guard = none) (s x : Operand) {t : TypeId}
    (ho : o.op = .call { callee := .builtin .append, args := #[s, x], argTypes := #[t, t] })
    {base : Nat} {e : TypeId} {z : Value} {size bytes : Nat} (T : SlT P t e z size bytes)
    {A : Option Addr} {n cc : Nat} {xs : List Value} (hs : a.eval s = .slice A n cc) (hown : Own w base e size A n cc xs)
    {B : Nat} {A2 : Option Addr} {m c : Nat} {news : List Value} (hx : a.eval x = .slice A2 m c) (hr : Reads w B size A2 m news) (hz : A2 = none → m = 0) (h1 : ∀ u ∈ news, u.oneCell' = true)
    (hbytes : (n + m) * bytes ≤ 140737488355328) (hbase : base ≤ w.heap.size)
    (h : ∀ A' c' w', Own w' base e size A' (n + m) c' (xs ++ news) → Fr (fun i => A = some ⟨i, 0, none⟩) w w' → (A' = A ∨ A' = some ⟨w.heap.size, 0, none⟩) → K (a.put o.dst (.slice A' (n + m) c')) w') :
    if Region.wanted o (yielded ops a.tmps) = true then Oper.wp P o a w K Q else E := by
  have hw : Region.wanted o (yielded ops a.tmps) = true := by simp [Region.wanted, hgd]
  rw [if_pos hw]
  exact wp_append_x w s x ho T hs hown hx hr hz h1 hbytes hbase h
end
/-- One new cell reads as a list of one. -/
theorem reads_one (w : World) (e : TypeId) (v : Value) : Reads (w.alloc (.cells #[v] e)) (w.heap.size + 1) 1 (some ⟨w.heap.size, 0, none⟩) 1 [v] := by
  refine ⟨rfl, fun _ => ⟨w.heap.size, 0, rfl, by omega, fun j u hu => ?_⟩⟩
  have hb := Blk.new w e #[v]
  match j, hu with
  | 0, hu => simp at hu; subst hu; exact hb.cell 0
theorem one_str {ss : List ByteArray} : ∀ u ∈ strsV ss, u.oneCell' = true := by
  intro u hu
  unfold strsV at hu
  obtain ⟨s, _, rfl⟩ := List.mem_map.1 hu
  rfl
end Go.Proofs.YthhpdnlfhofanaaGreatDoor
namespace Go.Proofs.YthhpdnlfhofanaaGreatDoor
open Go.RowKit
set_option linter.unusedVariables false
set_option linter.unusedSimpArgs false
structure Wait where
  id : Int
  status : List UInt8
  deriving Inhabited, DecidableEq
def Wait.v (x : Wait) : List V := [.int .i64 x.id, .str x.status]
def waitV (l : List Wait) : List (List V) := l.map Wait.v
theorem waitV_len (l : List Wait) : (waitV l).length = l.length := by simp [waitV]
theorem waitV_row {l : List Wait} {i : Nat} {f : Wait} (h : l[i]? = some f) : rowAt (waitV l) (i : Int) = f.v := by simp [rowAt, waitV, List.getD, h]
theorem waitV_ok {l : List Wait} {i : Nat} (h : i < l.length) : okRow (waitV l) i 2 = true := by simp [okRow, waitV, List.getElem?_eq_getElem h, Wait.v]
theorem waitV_lenL (l : List Wait) : lenL (waitV l) = (l.length : Int) := by simp [lenL, waitV]
theorem waitV_all (l : List Wait) : List.take l.length (waitV l) = waitV l := List.take_of_length_le (by simp [waitV])
theorem waitV_all1 (l : List Wait) (x : List V) : List.take (l.length + 1) (waitV l ++ [x]) = waitV l ++ [x] := List.take_of_length_le (by simp [waitV])
theorem waitV_add (l : List Wait) (f : Wait) : waitV l ++ [f.v] = waitV (l ++ [f]) := by simp [waitV]
theorem waitV_part {l : List Wait} {i : Nat} {f : Wait} (h : l[i]? = some f) (o n : Nat) : partAt (waitV l) i o n = sub f.v o n := by simp [partAt, waitV, h]
theorem waitV_put {l : List Wait} {i : Nat} {f g : Wait} (h : l[i]? = some f) {o : Nat} {ys : List V} (e : put f.v o ys = some g.v) : putAt (waitV l) i o ys = some (waitV (l.set i g)) := by simp [putAt, waitV, h, e]
theorem waitV_snoc {l : List Wait} {j : Nat} {f : Wait} (h : l[j]? = some f) : waitV (l.take j) ++ [f.v] = waitV (l.take (j + 1)) := by
  have := (List.getElem?_eq_some_iff.1 h); obtain ⟨h1, rfl⟩ := this
  unfold waitV; rw [List.take_succ_eq_append_getElem h1, List.map_append]; rfl
theorem waitV_app (a b : List Wait) : waitV a ++ waitV b = waitV (a ++ b) := by simp [waitV]
theorem waitV_take (a : List Wait) (n : Nat) : List.take n (waitV a) = waitV (a.take n) := by simp [waitV]
theorem waitV_drop (a : List Wait) (n : Nat) : List.drop n (waitV a) = waitV (a.drop n) := by simp [waitV]
theorem waitV_set (a : List Wait) (n : Nat) (f : Wait) : (waitV a).set n f.v = waitV (a.set n f) := by simp [waitV]
theorem waitV_head (a : List Wait) : headOkP 2 (waitV a) = true := by cases a <;> rfl
theorem waitV_get (a : List Wait) (i : Nat) : (waitV a)[i]? = (a[i]?).map Wait.v := by simp [waitV]
theorem Wait.eqv {x y : Wait} : x = y ↔ x.id = y.id ∧ x.status = y.status := by cases x; cases y; simp
theorem Wait.v_inj {x y : Wait} : x.v = y.v ↔ x = y := by
  cases x; cases y
  simp [Wait.v, and_assoc]
theorem waitV_inj {a b : List Wait} : waitV a = waitV b ↔ a = b := List.map_inj_right fun _ _ h => Wait.v_inj.1 h
def waitSh : Sh := .pair (.int .i64) (.pair .str .unit)
def Wait.fit (x : Wait) : Prop := (IntKind.i64.min ≤ x.id ∧ x.id ≤ IntKind.i64.max) ∧ x.status.length ≤ 140737488351232
theorem Wait.fits {vs : List V} (h : Fits waitSh vs) : ∃ x : Wait, vs = x.v ∧ x.fit := by
  unfold waitSh at h
  obtain ⟨u1, w1, rfl, a1, b1⟩ := h
  obtain ⟨x1, rfl, fx1⟩ := a1
  obtain ⟨u2, w2, rfl, a2, b2⟩ := b1
  obtain ⟨x2, rfl, fx2⟩ := a2
  obtain rfl : w2 = [] := b2
  exact ⟨⟨x1, x2⟩, rfl, ⟨fx1, fx2⟩⟩

structure Proc where
  id : Int
  parent : Int
  state : Int
  user : List UInt8
  name : List UInt8
  ns : Int
  env : Int
  fds : Int
  cwd : List UInt8
  notes : List (List UInt8)
  status : List UInt8
  waits : List Wait
  alone : Bool
  deriving Inhabited, DecidableEq
def Proc.v (x : Proc) : List V := [.int .i64 x.id, .int .i64 x.parent, .int .i64 x.state, .str x.user, .str x.name, .int .i64 x.ns, .int .i64 x.env, .int .i64 x.fds, .str x.cwd, .lst (strV x.notes), .str x.status, .lst (waitV x.waits), .bool x.alone]
def procV (l : List Proc) : List (List V) := l.map Proc.v
theorem procV_len (l : List Proc) : (procV l).length = l.length := by simp [procV]
theorem procV_row {l : List Proc} {i : Nat} {f : Proc} (h : l[i]? = some f) : rowAt (procV l) (i : Int) = f.v := by simp [rowAt, procV, List.getD, h]
theorem procV_ok {l : List Proc} {i : Nat} (h : i < l.length) : okRow (procV l) i 13 = true := by simp [okRow, procV, List.getElem?_eq_getElem h, Proc.v]
theorem procV_lenL (l : List Proc) : lenL (procV l) = (l.length : Int) := by simp [lenL, procV]
theorem procV_all (l : List Proc) : List.take l.length (procV l) = procV l := List.take_of_length_le (by simp [procV])
theorem procV_all1 (l : List Proc) (x : List V) : List.take (l.length + 1) (procV l ++ [x]) = procV l ++ [x] := List.take_of_length_le (by simp [procV])
theorem procV_add (l : List Proc) (f : Proc) : procV l ++ [f.v] = procV (l ++ [f]) := by simp [procV]
theorem procV_part {l : List Proc} {i : Nat} {f : Proc} (h : l[i]? = some f) (o n : Nat) : partAt (procV l) i o n = sub f.v o n := by simp [partAt, procV, h]
theorem procV_put {l : List Proc} {i : Nat} {f g : Proc} (h : l[i]? = some f) {o : Nat} {ys : List V} (e : put f.v o ys = some g.v) : putAt (procV l) i o ys = some (procV (l.set i g)) := by simp [putAt, procV, h, e]
theorem procV_snoc {l : List Proc} {j : Nat} {f : Proc} (h : l[j]? = some f) : procV (l.take j) ++ [f.v] = procV (l.take (j + 1)) := by
  have := (List.getElem?_eq_some_iff.1 h); obtain ⟨h1, rfl⟩ := this
  unfold procV; rw [List.take_succ_eq_append_getElem h1, List.map_append]; rfl
theorem procV_app (a b : List Proc) : procV a ++ procV b = procV (a ++ b) := by simp [procV]
theorem procV_take (a : List Proc) (n : Nat) : List.take n (procV a) = procV (a.take n) := by simp [procV]
theorem procV_drop (a : List Proc) (n : Nat) : List.drop n (procV a) = procV (a.drop n) := by simp [procV]
theorem procV_set (a : List Proc) (n : Nat) (f : Proc) : (procV a).set n f.v = procV (a.set n f) := by simp [procV]
theorem procV_head (a : List Proc) : headOkP 13 (procV a) = true := by cases a <;> rfl
theorem procV_get (a : List Proc) (i : Nat) : (procV a)[i]? = (a[i]?).map Proc.v := by simp [procV]
theorem Proc.eqv {x y : Proc} : x = y ↔ x.id = y.id ∧ x.parent = y.parent ∧ x.state = y.state ∧ x.user = y.user ∧ x.name = y.name ∧ x.ns = y.ns ∧ x.env = y.env ∧ x.fds = y.fds ∧ x.cwd = y.cwd ∧ x.notes = y.notes ∧ x.status = y.status ∧ x.waits = y.waits ∧ x.alone = y.alone := by cases x; cases y; simp
theorem Proc.v_inj {x y : Proc} : x.v = y.v ↔ x = y := by
  cases x; cases y
  simp [Proc.v, strV_inj, waitV_inj, and_assoc]
theorem procV_inj {a b : List Proc} : procV a = procV b ↔ a = b := List.map_inj_right fun _ _ h => Proc.v_inj.1 h
def procSh : Sh := .pair (.int .i64) (.pair (.int .i64) (.pair (.int .i64) (.pair .str (.pair .str (.pair (.int .i64) (.pair (.int .i64) (.pair (.int .i64) (.pair .str (.pair (.slice 16 1 .str) (.pair .str (.pair (.slice 24 2 waitSh) (.pair .bool .unit))))))))))))
def Proc.fit (x : Proc) : Prop := (IntKind.i64.min ≤ x.id ∧ x.id ≤ IntKind.i64.max) ∧ (IntKind.i64.min ≤ x.parent ∧ x.parent ≤ IntKind.i64.max) ∧ (IntKind.i64.min ≤ x.state ∧ x.state ≤ IntKind.i64.max) ∧ x.user.length ≤ 140737488351232 ∧ x.name.length ≤ 140737488351232 ∧ (IntKind.i64.min ≤ x.ns ∧ x.ns ≤ IntKind.i64.max) ∧ (IntKind.i64.min ≤ x.env ∧ x.env ≤ IntKind.i64.max) ∧ (IntKind.i64.min ≤ x.fds ∧ x.fds ≤ IntKind.i64.max) ∧ x.cwd.length ≤ 140737488351232 ∧ (x.notes.length * 16 ≤ 140737488351232 ∧ ∀ a ∈ x.notes, a.length ≤ 140737488351232) ∧ x.status.length ≤ 140737488351232 ∧ (x.waits.length * 24 ≤ 140737488351232 ∧ ∀ a ∈ x.waits, Wait.fit a) ∧ True
theorem Proc.fits {vs : List V} (h : Fits procSh vs) : ∃ x : Proc, vs = x.v ∧ x.fit := by
  unfold procSh at h
  obtain ⟨u1, w1, rfl, a1, b1⟩ := h
  obtain ⟨x1, rfl, fx1⟩ := a1
  obtain ⟨u2, w2, rfl, a2, b2⟩ := b1
  obtain ⟨x2, rfl, fx2⟩ := a2
  obtain ⟨u3, w3, rfl, a3, b3⟩ := b2
  obtain ⟨x3, rfl, fx3⟩ := a3
  obtain ⟨u4, w4, rfl, a4, b4⟩ := b3
  obtain ⟨x4, rfl, fx4⟩ := a4
  obtain ⟨u5, w5, rfl, a5, b5⟩ := b4
  obtain ⟨x5, rfl, fx5⟩ := a5
  obtain ⟨u6, w6, rfl, a6, b6⟩ := b5
  obtain ⟨x6, rfl, fx6⟩ := a6
  obtain ⟨u7, w7, rfl, a7, b7⟩ := b6
  obtain ⟨x7, rfl, fx7⟩ := a7
  obtain ⟨u8, w8, rfl, a8, b8⟩ := b7
  obtain ⟨x8, rfl, fx8⟩ := a8
  obtain ⟨u9, w9, rfl, a9, b9⟩ := b8
  obtain ⟨x9, rfl, fx9⟩ := a9
  obtain ⟨u10, w10, rfl, a10, b10⟩ := b9
  obtain ⟨rx10, rfl, lx10, ex10⟩ := a10
  obtain ⟨x10, rfl, gx10⟩ := rows_of (fun x => [.str x]) (fun a => a.length ≤ 140737488351232) (fun q hq => fits_oneS (ex10 q hq).2)
  rw [List.length_map] at lx10
  obtain ⟨u11, w11, rfl, a11, b11⟩ := b10
  obtain ⟨x11, rfl, fx11⟩ := a11
  obtain ⟨u12, w12, rfl, a12, b12⟩ := b11
  obtain ⟨rx12, rfl, lx12, ex12⟩ := a12
  obtain ⟨x12, rfl, gx12⟩ := rows_of (Wait.v) (fun a => Wait.fit a) (fun q hq => Wait.fits (ex12 q hq).2)
  rw [List.length_map] at lx12
  obtain ⟨u13, w13, rfl, a13, b13⟩ := b12
  obtain ⟨x13, rfl⟩ := a13
  obtain rfl : w13 = [] := b13
  exact ⟨⟨x1, x2, x3, x4, x5, x6, x7, x8, x9, x10, x11, x12, x13⟩, rfl, ⟨fx1, fx2, fx3, fx4, fx5, fx6, fx7, fx8, fx9, ⟨lx10, gx10⟩, fx11, ⟨lx12, gx12⟩, trivial⟩⟩

variable [MaxL]
/-- The same knobs, but a copy of a process keeps its own rows. -/
def cfgK : Cfg := { cfgN with res := fun f => bif Nat.beq f 44 then 0 else cfgN.res f }
theorem cfgK_ok : CfgOk Tryz.prog cfgK where
  prim := cfgN_ok.prim
  self := cfgN_ok.self
  clone := cfgN_ok.clone
  bstr := cfgN_ok.bstr
  dfr := cfgN_ok.dfr
end Go.Proofs.YthhpdnlfhofanaaGreatDoor
namespace Go.Proofs.YthhpdnlfhofanaaGreatDoor
open Go.RowKit
set_option maxRecDepth 100000
set_option linter.unusedVariables false
set_option linter.unusedSimpArgs false
theorem kn_vc [MaxL] (id parent state ns env fds : Int) (user name cwd status : List UInt8) (nt wt : List (List V)) (alone : Bool) (K : V → List Bk → Prop) : vcF Tryz.prog cfgN (ctOf []) (lpOf []) 44 [.agg [.int .i64 id, .int .i64 parent, .int .i64 state, .str user, .str name, .int .i64 ns, .int .i64 env, .int .i64 fds, .str cwd, .lst nt, .str status, .lst wt, .bool alone]] [] K = (
  need (headOkP 1 nt) (
  need (leN (nt.length * 16) 140737488355328) (
  need (headOkP 2 wt) (
  need (leN (wt.length * 24) 140737488355328) (
  K (V.agg [V.int IntKind.i64 id, V.int IntKind.i64 parent, V.int IntKind.i64 state, V.str user, V.str name, V.int IntKind.i64 ns, V.int IntKind.i64 env, V.int IntKind.i64 fds, V.str cwd, V.lst (List.take nt.length (List.drop 0 nt)), V.str status, V.lst (List.take wt.length (List.drop 0 wt)), V.bool alone]) []))))) := by kernel_rfl

theorem kk_vc [MaxL] (id parent state ns env fds : Int) (user name cwd status : List UInt8) (nt wt : List (List V)) (alone : Bool) (K : V → List Bk → Prop) : vcF Tryz.prog cfgK (ctOf []) (lpOf []) 44 [.agg [.int .i64 id, .int .i64 parent, .int .i64 state, .str user, .str name, .int .i64 ns, .int .i64 env, .int .i64 fds, .str cwd, .lst nt, .str status, .lst wt, .bool alone]] [] K = (
  need (headOkP 1 nt) (
  need (leN (nt.length * 16) 140737488355328) (
  need (headOkP 2 wt) (
  need (leN (wt.length * 24) 140737488355328) (
  K (V.agg [V.int IntKind.i64 id, V.int IntKind.i64 parent, V.int IntKind.i64 state, V.str user, V.str name, V.int IntKind.i64 ns, V.int IntKind.i64 env, V.int IntKind.i64 fds, V.str cwd, V.ref 0 0 nt.length nt.length, V.str status, V.ref 1 0 wt.length wt.length, V.bool alone]) [Bk.mk true false true nt 0, Bk.mk true false true wt 0]))))) := by kernel_rfl

end Go.Proofs.YthhpdnlfhofanaaGreatDoor
namespace Go.Proofs.YthhpdnlfhofanaaGreatDoor
open Go.RowKit
set_option linter.unusedSimpArgs false
set_option linter.unusedVariables false
theorem storeAt_row {P : Program} {w : World} {t : TypeId} {n : Nat} (hn : szT P t = some n) {Y : Value} (hsize : Y.cells.size = n) {g o : Nat} {ty : TypeId} {arr : Array Value} (hg : w.heap[g]? = some (.cells arr ty (0, 0))) (hfit : o + n ≤ arr.size)
    (h1 : ∀ v ∈ Y.cells.toList, v.oneCell' = true) :
    (Instr.storeAt t (.pointer (some ⟨g, o, none⟩)) Y).run P w = .ok () (w.setRow g (arr.toList.take o ++ Y.cells.toList ++ arr.toList.drop (o + n)).toArray) := by
  have hrun := run_storeCells_at P g o ty Y.cells.toList 0 arr w hg (by simp; omega) h1
  simp only [Nat.add_zero] at hrun
  rw [show Y.cells.toList.length = n by simpa using hsize] at hrun
  simp only [Instr.storeAt, Instr.sureAddr, storeVar, Sem.run_bind, Sem.run_pure, Result.andThen_ok, run_sizeOf hn, Sem.run_ite]
  rw [if_neg (by simp [hsize])]
  exact hrun
theorem wpList_store_row {P : Program} (w : World) {ops : Array Oper} {rest : List Oper} {o : Oper} {a : Act} {Q : Exit → Act → World → Prop} (hg : o.guard = none) (hd : o.dst = none) (p x : Operand) (t : TypeId) (hop : o.op = Op.store t p x)
    (g off n : Nat) (us : Array Value) (arr : Array Value) (ty : TypeId) (hn : szT P t = some n) (hp : a.eval p = .pointer (some ⟨g, off, none⟩)) (hx : a.eval x = .agg us) (hu : us.size = n) (hh : w.heap[g]? = some (.cells arr ty (0, 0)))
    (hfit : off + n ≤ arr.size) (h1 : ∀ v ∈ us.toList, v.oneCell' = true) (hK : wpList P ops Q rest a (w.setRow g (arr.toList.take off ++ us.toList ++ arr.toList.drop (off + n)).toArray)) : wpList P ops Q (o :: rest) a w := by
  refine wpList_plain hg fun K hK' => ?_
  have hrun := storeAt_row (P := P) (w := w) hn (Y := .agg us) (by simpa [Value.cells] using hu) hh hfit (by simpa [Value.cells] using h1)
  unfold Oper.wp
  simp [execOp, hop, hp, hx, hrun, Result.andThen]
  exact hK' _ _ (by simpa [Value.cells, hd, Act.put] using hK)
theorem alloc_setRow (w : World) (ty : TypeId) (arr us : Array Value) : (w.alloc (.cells arr ty)).setRow w.heap.size us = w.alloc (.cells us ty) := by
  have e : ∀ (h : Array Obj) (x y : Obj) (f : Obj → Obj), f x = y → (h.push x).modify h.size f = h.push y := fun h x y f hf => by
    apply Array.ext_getElem?
    intro k
    rw [Array.getElem?_modify, Array.getElem?_push, Array.getElem?_push]
    by_cases hk : h.size = k
    · subst hk; simp [hf]
    · rw [if_neg hk, if_neg (fun q => hk q.symm), if_neg (fun q => hk q.symm)]
  show World.mk _ _ _ _ _ = World.mk _ _ _ _ _
  simp only [World.mk.injEq]
  exact ⟨e _ _ _ _ rfl, rfl, rfl, rfl, rfl⟩
theorem wpList_store_new {P : Program} (w : World) {ops : Array Oper} {rest : List Oper} {o : Oper} {a : Act} {Q : Exit → Act → World → Prop} (hg : o.guard = none) (hd : o.dst = none) (p x : Operand) (t : TypeId) (hop : o.op = Op.store t p x)
    (n : Nat) (us : Array Value) (arr : Array Value) (ty : TypeId) (hn : szT P t = some n) (hp : a.eval p = .pointer (some ⟨w.heap.size, 0, none⟩)) (hx : a.eval x = .agg us) (hu : us.size = n) (ha : arr.size = n)
    (h1 : ∀ v ∈ us.toList, v.oneCell' = true) (hK : wpList P ops Q rest a (w.alloc (.cells us ty))) : wpList P ops Q (o :: rest) a (w.alloc (.cells arr ty)) := by
  refine wpList_store_row _ hg hd p x t hop w.heap.size 0 n us arr ty hn hp hx hu (by show (w.heap.push _)[w.heap.size]? = _; rw [Array.getElem?_push_size]) (by omega) h1 ?_
  have e : (arr.toList.take 0 ++ us.toList ++ arr.toList.drop (0 + n)).toArray = us := by
    rw [List.take_zero, List.nil_append, List.drop_of_length_le (by simp; omega), List.append_nil]
  rw [e, alloc_setRow]
  exact hK
theorem wpList_store_blk {P : Program} (w : World) {ops : Array Oper} {rest : List Oper} {o : Oper} {a : Act} {Q : Exit → Act → World → Prop} (hg : o.guard = none) (hd : o.dst = none) (p x : Operand) (t : TypeId) (hop : o.op = Op.store t p x)
    (g n : Nat) (us : Array Value) (arr : Array Value) (ty : TypeId) (hn : szT P t = some n) (hp : a.eval p = .pointer (some ⟨g, 0, none⟩)) (hx : a.eval x = .agg us) (hu : us.size = n) (ha : arr.size = n) (hb : Blk w g ty arr)
    (h1 : ∀ v ∈ us.toList, v.oneCell' = true) (hK : ∀ w', Blk w' g ty us → Fr (fun i => i = g) w w' → wpList P ops Q rest a w') : wpList P ops Q (o :: rest) a w := by
  refine wpList_store_row _ hg hd p x t hop g 0 n us arr ty hn hp hx hu hb (by omega) h1 ?_
  have e : (arr.toList.take 0 ++ us.toList ++ arr.toList.drop (0 + n)).toArray = us := by
    rw [List.take_zero, List.nil_append, List.drop_of_length_le (by simp; omega), List.append_nil]
  rw [e]
  exact hK _ (setRow_heap w g arr us ty _ hb) ⟨rfl, rfl, rfl, by rw [size_setRow]; exact Nat.le_refl _, fun k _ hk => setRow_other w g k us hk⟩
theorem sz_proc : szT Tryz.prog 45 = some 13 := by kernel_rfl
end Go.Proofs.YthhpdnlfhofanaaGreatDoor
namespace Go.Proofs.YthhpdnlfhofanaaGreatDoor
open Go.RowKit
set_option linter.unusedSimpArgs false
set_option linter.unusedVariables false
def procZ : Array Value := #[.int .i64 0, .int .i64 0, .int .i64 0, .string ⟨#[]⟩, .string ⟨#[]⟩, .int .i64 0, .int .i64 0, .int .i64 0, .string ⟨#[]⟩, .slice none 0 0, .string ⟨#[]⟩, .slice none 0 0, .bool false]
/-- W' is W but for three blocks from g on, and new ones. -/
abbrev Keeps (g : Nat) (W W' : World) : Prop := Fr (fun k => g ≤ k ∧ k ≤ g + 2) W W'
theorem Keeps.trans {g : Nat} {A B C : World} (h : Keeps g A B) (k : Keeps g B C) : Keeps g A C := Fr.trans h k fun _ _ h => h
theorem Keeps.setRow (g : Nat) (W : World) (us : Array Value) {k : Nat} (hk : g ≤ k ∧ k ≤ g + 2) : Keeps g W (W.setRow k us) := ⟨rfl, rfl, rfl, by rw [size_setRow]; exact Nat.le_refl _, fun i _ hn => setRow_other W k i _ (fun e => hn (e ▸ hk))⟩
theorem Keeps.setCell (g : Nat) (W : World) {p : Addr} {u : Value} (hk : g ≤ p.block ∧ p.block ≤ g + 2) : Keeps g W (W.setCell p u) := ⟨rfl, rfl, rfl, by simp [World.setCell], fun i _ hn => Below.heap_setCell W p u i (fun e => hn (e ▸ hk))⟩
theorem Keeps.of_below {g : Nat} {W W' : World} (h : Below W.heap.size W W') : Keeps g W W' := ⟨h.os, h.tape, h.output, h.size, fun k hk _ => h.block k hk⟩
/-- The rows so far, as cells. -/
def rowsL (us : Nat → Array Value) : Nat → List Value
  | 0 => []
  | j + 1 => rowsL us j ++ (us j).toList
theorem rowsL_len {us : Nat → Array Value} : ∀ {j : Nat}, (∀ i, i < j → (us i).size = 13) → (rowsL us j).length = j * 13
  | 0, _ => rfl
  | j + 1, h => by
    rw [rowsL, List.length_append, rowsL_len (fun i hi => h i (by omega)), Array.length_toList, h j (by omega)]; omega
theorem rowsL_congr {us vs : Nat → Array Value} : ∀ {j : Nat}, (∀ i, i < j → us i = vs i) → rowsL us j = rowsL vs j
  | 0, _ => rfl
  | j + 1, h => by rw [rowsL, rowsL, rowsL_congr (fun i hi => h i (by omega)), h j (by omega)]
/-- What holds at the head of own's loop: the memory w before, g = its size; the three blocks; the rows so far. -/
structure OwnI (R : Nat → Array Value → Nat → Nat → World → Prop) (w : World) (cs : Array Value) (n j : Nat) (wr : World) : Prop where
  below : Below w.heap.size w wr
  b0 : wr.heap[w.heap.size]? = some (.cells cs 41 (0, 0))
  b1 : wr.heap[w.heap.size + 1]? = some (.cells #[.int .i64 0, .int .i64 0, .slice none 0 0] 41 (0, 0))
  rows : ∃ (us : Nat → Array Value) (lo hi : Nat → Nat), wr.heap[w.heap.size + 2]? = some (.cells (rowsL us j ++ (madeCells procZ (n * 13)).toList.drop (j * 13)).toArray 45 (0, 0)) ∧
    (∀ i, i < j → R i (us i) (lo i) (hi i) wr ∧ (us i).size = 13 ∧ w.heap.size + 3 ≤ lo i ∧ lo i ≤ hi i ∧ hi i ≤ wr.heap.size) ∧ (∀ i k, i < k → k < j → hi i ≤ lo k)
theorem OwnI.size {R : Nat → Array Value → Nat → Nat → World → Prop} {w wr : World} {cs : Array Value} {n j : Nat} (h : OwnI R w cs n j wr) : w.heap.size + 3 ≤ wr.heap.size := by
  obtain ⟨us, lo, hi, e, _⟩ := h.rows
  have := (Array.getElem?_eq_some_iff.1 e).1
  omega
/-- One round: W is the memory where the copy is made, W' the one behind it. -/
theorem OwnI.next {R : Nat → Array Value → Nat → Nat → World → Prop} {w wr W W' : World} {cs : Array Value} {n j : Nat} (h : OwnI R w cs n j wr) (hj : j < n) (hR : ∀ i us a b X Y, i < n → R i us a b X → Keeps w.heap.size X Y → R i us a b Y)
    (hW : Below wr.heap.size wr W) (hW' : Below W.heap.size W W') {u : Array Value} (hu : u.size = 13) (hr : R j u W.heap.size W'.heap.size W') :
    ∃ arr, W'.heap[w.heap.size + 2]? = some (.cells arr 45 (0, 0)) ∧ arr.size = n * 13 ∧
      OwnI R w cs n (j + 1) (W'.setRow (w.heap.size + 2) (arr.toList.take (j * 13) ++ u.toList ++ arr.toList.drop (j * 13 + 13)).toArray) := by
  have hsz := h.size
  obtain ⟨us, lo, hi, e, h1, h2⟩ := h.rows
  have hb : Below wr.heap.size wr W' := hW.trans (hW'.mono hW.size)
  have hl := rowsL_len (us := us) (fun i hi' => (h1 i hi').2.1)
  have hz : (madeCells procZ (n * 13)).toList.length = n * 13 := by rw [Array.length_toList, size_madeCells]
  refine ⟨_, (hb.block _ (by omega)).trans e, ?_, ?_⟩
  · simp only [List.size_toArray, List.length_append, List.length_drop, hl, hz]; omega
  · have hset := setRow_heap W' (w.heap.size + 2) (rowsL us j ++ (madeCells procZ (n * 13)).toList.drop (j * 13)).toArray ((rowsL us j ++ (madeCells procZ (n * 13)).toList.drop (j * 13)).toArray.toList.take (j * 13) ++ u.toList ++ (rowsL us j ++ (madeCells procZ (n * 13)).toList.drop (j * 13)).toArray.toList.drop (j * 13 + 13)).toArray 45 (0, 0) ((hb.block _ (by omega)).trans e)
    have hk : Keeps w.heap.size wr (W'.setRow (w.heap.size + 2) ((rowsL us j ++ (madeCells procZ (n * 13)).toList.drop (j * 13)).toArray.toList.take (j * 13) ++ u.toList ++ (rowsL us j ++ (madeCells procZ (n * 13)).toList.drop (j * 13)).toArray.toList.drop (j * 13 + 13)).toArray) :=
      (Keeps.of_below hb).trans (Keeps.setRow _ _ _ ⟨by omega, by omega⟩)
    have hk2 : Keeps w.heap.size W' (W'.setRow (w.heap.size + 2) ((rowsL us j ++ (madeCells procZ (n * 13)).toList.drop (j * 13)).toArray.toList.take (j * 13) ++ u.toList ++ (rowsL us j ++ (madeCells procZ (n * 13)).toList.drop (j * 13)).toArray.toList.drop (j * 13 + 13)).toArray) := Keeps.setRow _ _ _ ⟨by omega, by omega⟩
    have hsW := hW.size
    have hsW' := hW'.size
    refine ⟨?_, ?_, ?_, ?_⟩
    · have h0 := h.below.trans (hb.mono (by omega))
      exact ⟨h0.os, h0.tape, h0.output, by rw [size_setRow]; exact h0.size, fun k hk' => (setRow_other _ _ _ _ (by omega)).trans (h0.block k hk')⟩
    · rw [setRow_other _ _ _ _ (by omega), hb.block _ (by omega)]; exact h.b0
    · rw [setRow_other _ _ _ _ (by omega), hb.block _ (by omega)]; exact h.b1
    · refine ⟨fun i => if i = j then u else us i, fun i => if i = j then W.heap.size else lo i, fun i => if i = j then W'.heap.size else hi i, ?_, fun i hij => ?_, fun i k hik hkj => ?_⟩
      · rw [hset]
        congr 3
        have e1 : rowsL (fun i => if i = j then u else us i) j = rowsL us j := rowsL_congr fun i hi' => if_neg (by omega)
        simp only [rowsL, e1, if_true]
        have e2 : (rowsL us j ++ (madeCells procZ (n * 13)).toList.drop (j * 13)).take (j * 13) = rowsL us j := by rw [← hl, List.take_left]
        have e3 : (rowsL us j ++ (madeCells procZ (n * 13)).toList.drop (j * 13)).drop (j * 13 + 13) = (madeCells procZ (n * 13)).toList.drop ((j + 1) * 13) := by
          rw [List.drop_append, List.drop_eq_nil_of_le (by omega), List.nil_append, hl, List.drop_drop]; congr 1; omega
        rw [e2, e3]
      · by_cases q : i = j
        · subst q
          simp only [if_true]
          exact ⟨hR _ _ _ _ _ _ hj hr hk2, hu, by omega, hsW', by rw [size_setRow]; exact Nat.le_refl _⟩
        · simp only [if_neg q]
          obtain ⟨a1, a2, a3, a4, a5⟩ := h1 i (by omega)
          exact ⟨hR _ _ _ _ _ _ (by omega) a1 hk, a2, a3, a4, by rw [size_setRow]; omega⟩
      · by_cases q : k = j
        · subst q
          simp only [if_true, if_neg (show i ≠ k by omega)]
          have := (h1 i hik).2.2.2.2; omega
        · simp only [if_neg q, if_neg (show i ≠ j by omega)]
          exact h2 i k hik (by omega)
end Go.Proofs.YthhpdnlfhofanaaGreatDoor
namespace Go.Proofs.YthhpdnlfhofanaaGreatDoor
open Go.RowKit
set_option linter.unusedSimpArgs false
set_option linter.unusedVariables false
set_option maxRecDepth 100000 in
set_option maxHeartbeats 1600000 in
theorem own_raw (R : Nat → Array Value → Nat → Nat → World → Prop) (U : Nat → Nat → Value) (nx gp : Int) (n b off c : Nat) (w : World) (hn : n ≤ 70) (hb : b < w.heap.size)
    (hcells : ∀ j c, j < n → c < 13 → w.cell? ⟨b, off + j * 13 + c, none⟩ = some (U j c)) (h1 : ∀ j c, j < n → c < 13 → (U j c).oneCell' = true) (hR : ∀ i us a b X Y, i < n → R i us a b X → Keeps w.heap.size X Y → R i us a b Y)
    (hcl : ∀ j W, j < n → Below w.heap.size w W → w.heap.size + 3 ≤ W.heap.size → Calls Tryz.prog 44 #[.agg #[U j 0, U j 1, U j 2, U j 3, U j 4, U j 5, U j 6, U j 7, U j 8, U j 9, U j 10, U j 11, U j 12]] W fun e W' => ∃ u, e = .returned (.agg u) ∧ u.size = 13 ∧ (∀ v ∈ u.toList, v.oneCell' = true) ∧ Below W.heap.size W W' ∧ R j u W.heap.size W'.heap.size W') :
    Calls Tryz.prog 50 #[.agg #[.int .i64 nx, .int .i64 gp, .slice (some ⟨b, off, none⟩) n c]] w fun e w' => e = .returned (.agg #[.int .i64 nx, .int .i64 gp, .slice (some ⟨w.heap.size + 2, 0, none⟩) n n]) ∧
      ∃ (us : Nat → Array Value) (lo hi : Nat → Nat), Below w.heap.size w w' ∧ w'.heap[w.heap.size + 2]? = some (.cells (rowsL us n).toArray 45 (0, 0)) ∧
        (∀ i, i < n → R i (us i) (lo i) (hi i) w' ∧ (us i).size = 13 ∧ w.heap.size + 3 ≤ lo i ∧ lo i ≤ hi i ∧ hi i ≤ w'.heap.size) ∧ (∀ i k, i < k → k < n → hi i ≤ lo k) := by
  obtain ⟨i, i1, i2, i3, i4⟩ : ∃ i, Tryz.prog.info? 45 = some i ∧ i.zero = some (.agg procZ) ∧ i.size = 13 ∧ i.bytes = 168 := ⟨_, rfl, by kernel_rfl, by kernel_rfl, by kernel_rfl⟩
  have hmk : ∀ W : World, (Instr.makeSlice 39 (.int .i64 (n : Int)) (.int .i64 (n : Int))).run Tryz.prog W = .ok (.slice (some ⟨W.heap.size, 0, none⟩) n n) (W.alloc (.cells (madeCells procZ (n * 13)) 45)) := fun W => by
    have := run_make (P := Tryz.prog) W 39 45 i _ Tryz.underlying39 i1 i2 .i64 .i64 n n (by omega) (Int.le_refl _) (by rw [i4]; omega) (by omega)
    rw [i3] at this
    simp only [Int.toNat_natCast] at this
    exact this
  clear i1 i2 i3 i4
  have CL := Lib.hid hcl
  have HC := Lib.hid hcells
  have H1 := Lib.hid h1
  have HR := Lib.hid hR
  clear hcl hcells h1 hR
  go_enter Tryz.func50, Tryz.ntmps50
  go_wp2_with fail
  go_loopw [13] (fun i wr => ∃ j : Nat, j ≤ n ∧ i = .int .i64 j ∧ Hid (OwnI R w #[.int .i64 nx, .int .i64 gp, .slice (some ⟨b, off, none⟩) n c] n j wr)) (fun i _ => n - (intOf i).toNat)
  case atStart =>
    refine ⟨0, Nat.zero_le _, rfl, ?_⟩
    show OwnI _ _ _ _ _ _
    refine ⟨((((Below.refl _ _).alloc (Nat.le_refl _) _).alloc (by simp) _).alloc (by simp; omega) _), ?_, ?_, fun _ => #[], fun _ => 0, fun _ => 0, ?_, fun i hi => absurd hi (Nat.not_lt_zero _), fun i k _ hk => absurd hk (Nat.not_lt_zero _)⟩
    · exact ((Blk.new w _ _).alloc _).alloc _
    · exact (Blk.new' (w.alloc _) _ _ (by simp)).alloc _
    · have e : (rowsL (fun _ => #[]) 0 ++ (madeCells procZ (n * 13)).toList.drop (0 * 13)).toArray = madeCells procZ (n * 13) := by simp [rowsL]
      rw [e]
      exact Blk.new' ((w.alloc _).alloc _) _ _ (by simp)
  case round =>
    obtain ⟨j, hj, rfl, hI⟩ := hrel
    have hszr := hI.out.size
    have hb2 : b < wr.heap.size := by omega
    have hcells' : ∀ j c, j < n → c < 13 → wr.cell? ⟨b, off + j * 13 + c, none⟩ = some (U j c) := fun j c hj hc => (World.cell?_of_block (hI.out.below.block b hb)).trans (HC.out j c hj hc)
    by_cases hlt : j < n
    · have hi0 : (0 : Int) ≤ (j : Int) := by omega
      have hi1 : (j : Int) < (n : Int) := by omega
      have hc0 : wr.cell? ⟨b, off + j * 13, none⟩ = some (U j 0) := hcells' j 0 hlt (by omega)
      have hc1 : wr.cell? ⟨b, off + j * 13 + 1, none⟩ = some (U j 1) := hcells' j 1 hlt (by omega)
      have hc2 : wr.cell? ⟨b, off + j * 13 + 2, none⟩ = some (U j 2) := hcells' j 2 hlt (by omega)
      have hc3 : wr.cell? ⟨b, off + j * 13 + 3, none⟩ = some (U j 3) := hcells' j 3 hlt (by omega)
      have hc4 : wr.cell? ⟨b, off + j * 13 + 4, none⟩ = some (U j 4) := hcells' j 4 hlt (by omega)
      have hc5 : wr.cell? ⟨b, off + j * 13 + 5, none⟩ = some (U j 5) := hcells' j 5 hlt (by omega)
      have hc6 : wr.cell? ⟨b, off + j * 13 + 6, none⟩ = some (U j 6) := hcells' j 6 hlt (by omega)
      have hc7 : wr.cell? ⟨b, off + j * 13 + 7, none⟩ = some (U j 7) := hcells' j 7 hlt (by omega)
      have hc8 : wr.cell? ⟨b, off + j * 13 + 8, none⟩ = some (U j 8) := hcells' j 8 hlt (by omega)
      have hc9 : wr.cell? ⟨b, off + j * 13 + 9, none⟩ = some (U j 9) := hcells' j 9 hlt (by omega)
      have hc10 : wr.cell? ⟨b, off + j * 13 + 10, none⟩ = some (U j 10) := hcells' j 10 hlt (by omega)
      have hc11 : wr.cell? ⟨b, off + j * 13 + 11, none⟩ = some (U j 11) := hcells' j 11 hlt (by omega)
      have hc12 : wr.cell? ⟨b, off + j * 13 + 12, none⟩ = some (U j 12) := hcells' j 12 hlt (by omega)
      clear hcells'
      have hone : ∀ v ∈ (#[U j 0, U j 1, U j 2, U j 3, U j 4, U j 5, U j 6, U j 7, U j 8, U j 9, U j 10, U j 11, U j 12] : Array Value).toList, v.oneCell' = true := by
        intro v hv
        simp only [List.mem_cons, List.not_mem_nil, or_false] at hv
        rcases hv with rfl | rfl | rfl | rfl | rfl | rfl | rfl | rfl | rfl | rfl | rfl | rfl | rfl <;> exact H1.out _ _ hlt (by omega)
      go_wp2_with (refine wpList_store_new _ rfl rfl _ _ 45 rfl 13 _ _ _ sz_proc rfl rfl rfl rfl hone ?_)
      have hWa : Below wr.heap.size wr (wr.alloc (.cells #[U j 0, U j 1, U j 2, U j 3, U j 4, U j 5, U j 6, U j 7, U j 8, U j 9, U j 10, U j 11, U j 12] 45)) := (Below.refl _ _).alloc (Nat.le_refl _) _
      refine (CL.out j _ hlt (hI.out.below.trans (hWa.mono (by omega))) (by simp; omega)).mono ?_
      rintro e W' ⟨u, rfl, hu, hu1, hb', hr⟩
      obtain ⟨arr, hB, harr, hnext⟩ := hI.out.next hlt HR.out hWa hb' hu hr
      have hB2 : W'.heap[w.heap.size + 1 + 1]? = some (.cells arr 45 (0, 0)) := hB
      have hfit : j * 13 + 13 ≤ arr.size := by omega
      have HN := Lib.hid hnext
      clear hnext
      go_wp2_with (refine wpList_store_row _ rfl rfl _ _ 45 rfl (w.heap.size + 1 + 1) (j * 13) 13 _ _ _ sz_proc rfl rfl hu hB2 hfit hu1 ?_)
      go_roundw
      case rel =>
        refine ⟨j + 1, by omega, by go_num, ?_⟩
        show OwnI _ _ _ _ _ _
        have := HN.out
        rwa [List.append_assoc] at this
      case measure => simp [intOf]; omega
    · obtain rfl : j = n := by omega
      have b0 : Blk wr w.heap.size 41 #[.int .i64 nx, .int .i64 gp, .slice (some ⟨b, off, none⟩) j c] := hI.out.b0
      have b1 : Blk wr (w.heap.size + 1) 41 #[.int .i64 0, .int .i64 0, .slice none 0 0] := hI.out.b1
      have c00 : wr.cell? ⟨w.heap.size, 0, none⟩ = some (.int .i64 nx) := b0.cell 0
      have c01 : wr.cell? ⟨w.heap.size, 1, none⟩ = some (.int .i64 gp) := b0.cell 1
      have c02 : wr.cell? ⟨w.heap.size, 2, none⟩ = some (.slice (some ⟨b, off, none⟩) j c) := b0.cell 2
      have c10 : wr.cell? ⟨w.heap.size + 1, 0, none⟩ = some (.int .i64 0) := b1.cell 0
      have c11 : wr.cell? ⟨w.heap.size + 1, 1, none⟩ = some (.int .i64 0) := b1.cell 1
      have c12 : wr.cell? ⟨w.heap.size + 1, 2, none⟩ = some (.slice none 0 0) := b1.cell 2
      have f0 := b0.frozen
      have f1 := b1.frozen
      have hs0 : w.heap.size < wr.heap.size := by omega
      have hs1 : w.heap.size + 1 < wr.heap.size := by omega
      clear b0 b1 hcells'
      go_wp2_with fail
      obtain ⟨us, lo, hi, e, q1, q2⟩ := hI.out.rows
      have e0 : rowsL us j ++ (madeCells procZ (j * 13)).toList.drop (j * 13) = rowsL us j := by
        rw [List.drop_of_length_le (by rw [Array.length_toList, size_madeCells]; exact Nat.le_refl _), List.append_nil]
      rw [e0] at e
      refine bodyPost_ret (v := .agg #[.int .i64 nx, .int .i64 gp, .slice (some ⟨w.heap.size + 2, 0, none⟩) j j]) (by simp [results, Tryz.results50, go_sem, hs0, hs1, c10, c11, c12]) rfl ⟨rfl, us, lo, hi, ?_, ?_, fun i hi' => ?_, q2⟩
      · exact ((((hI.out.below.setCell (by simp) _).setCell (by simp) _).setCell (by simp) _).setCell (by simp) _)
      · rw [Below.heap_setCell _ _ _ _ (by simp), Below.heap_setCell _ _ _ _ (by simp), Below.heap_setCell _ _ _ _ (by simp), Below.heap_setCell _ _ _ _ (by simp)]
        exact e
      · obtain ⟨a1, a2, a3, a4, a5⟩ := q1 i hi'
        refine ⟨HR.out _ _ _ _ _ _ hi' a1 ((((Keeps.setCell _ _ ⟨by simp, by simp⟩).trans (Keeps.setCell _ _ ⟨by simp, by simp⟩)).trans (Keeps.setCell _ _ ⟨by simp, by simp⟩)).trans (Keeps.setCell _ _ ⟨by simp, by simp⟩)), a2, a3, a4, ?_⟩
        simpa [World.setCell] using a5
end Go.Proofs.YthhpdnlfhofanaaGreatDoor
namespace Go.Proofs.YthhpdnlfhofanaaGreatDoor
open Go.RowKit
set_option linter.unusedSimpArgs false
set_option linter.unusedVariables false
theorem slS : SlT Tryz.prog 30 9 (.string ⟨#[]⟩) 1 16 := SlT.mk' Tryz.underlying30 (by kernel_rfl) rfl (by omega) (by omega)
theorem slW : SlT Tryz.prog 43 129 (.agg #[.int .i64 0, .string ⟨#[]⟩]) 2 24 := SlT.mk' Tryz.underlying43 (by kernel_rfl) rfl (by omega) (by omega)
set_option maxHeartbeats 400000 in
theorem clone_s (A : Option Addr) (n c : Nat) (xs : List Value) (w : World) (hr : Reads w w.heap.size 1 A n xs) (hA : A = none → n = 0) (h1 : ∀ v ∈ xs, v.oneCell' = true) (hl : n ≤ 100000) :
    Calls Tryz.prog 62 #[.slice A n c] w fun e w' => ∃ A' c', e = .returned (.slice A' n c') ∧ Own w' w.heap.size 9 1 A' n c' xs ∧ Below w.heap.size w w' := by
  have hq := fun W => Lib.run_eql_slice_nil (P := Tryz.prog) W 30 9 A n c 0 0 Tryz.underlying30
  rcases A with _ | ad
  · obtain rfl := hA rfl
    have hs : xs = [] := List.eq_nil_of_length_eq_zero (by simpa using hr.1)
    subst hs
    clear hA hr h1
    simp only [Option.isNone_none] at hq ⊢
    go_enter Tryz.func62, Tryz.ntmps62
    go_wp2_with fail
    go_ret
    exact ⟨none, 0, rfl, Own.none_ _ _ _ _, Below.refl _ _⟩
  · clear hA
    have H1 := Lib.hid h1
    clear h1
    go_enter Tryz.func62, Tryz.ntmps62
    go_wp2_with (at_builtin; refine wpList_append_x _ rfl _ _ rfl slS (base := w.heap.size) (A := some ⟨w.heap.size, 0, none⟩) (n := 0) (cc := 0) (xs := []) rfl (Own.lit w #[] 0 (Nat.le_refl _) (by simp) rfl) rfl (hr.alloc (Nat.le_refl _) _) (by simp) H1.out (by omega) (by simp) ?_; intro A' c' w1 hown hfr hat)
    go_ret
    refine ⟨A', c', ?_, ?_, ?_⟩
    · simp
    · simpa using hown
    · exact ((Below.refl _ _).alloc (Nat.le_refl _) _).trans (hfr.below (B := w.heap.size) (by simp) (by intro i hi; injection hi with hi; injection hi with hi; omega))
set_option maxHeartbeats 400000 in
theorem clone_w (A : Option Addr) (n c : Nat) (xs : List Value) (w : World) (hr : Reads w w.heap.size 2 A n xs) (hA : A = none → n = 0) (h1 : ∀ v ∈ xs, v.oneCell' = true) (hl : n ≤ 100000) :
    Calls Tryz.prog 126 #[.slice A n c] w fun e w' => ∃ A' c', e = .returned (.slice A' n c') ∧ Own w' w.heap.size 129 2 A' n c' xs ∧ Below w.heap.size w w' := by
  have hq := fun W => Lib.run_eql_slice_nil (P := Tryz.prog) W 43 129 A n c 0 0 Tryz.underlying43
  rcases A with _ | ad
  · obtain rfl := hA rfl
    have hs : xs = [] := List.eq_nil_of_length_eq_zero (by simpa using hr.1)
    subst hs
    clear hA hr h1
    simp only [Option.isNone_none] at hq ⊢
    go_enter Tryz.func126, Tryz.ntmps126
    go_wp2_with fail
    go_ret
    exact ⟨none, 0, rfl, Own.none_ _ _ _ _, Below.refl _ _⟩
  · clear hA
    have H1 := Lib.hid h1
    clear h1
    go_enter Tryz.func126, Tryz.ntmps126
    go_wp2_with (at_builtin; refine wpList_append_x _ rfl _ _ rfl slW (base := w.heap.size) (A := some ⟨w.heap.size, 0, none⟩) (n := 0) (cc := 0) (xs := []) rfl (Own.lit w #[] 0 (Nat.le_refl _) (by simp) rfl) rfl (hr.alloc (Nat.le_refl _) _) (by simp) H1.out (by omega) (by simp) ?_; intro A' c' w1 hown hfr hat)
    go_ret
    refine ⟨A', c', ?_, ?_, ?_⟩
    · simp
    · simpa using hown
    · exact ((Below.refl _ _).alloc (Nat.le_refl _) _).trans (hfr.below (B := w.heap.size) (by simp) (by intro i hi; injection hi with hi; injection hi with hi; omega))
set_option maxRecDepth 100000 in
set_option maxHeartbeats 1600000 in
theorem clone_raw (u0 u1 u2 u3 u4 u5 u6 u7 u8 u10 u12 : Value) (A B : Option Addr) (n c m d : Nat) (xs ys : List Value) (w : World) (h9 : Reads w w.heap.size 1 A n xs) (z9 : A = none → n = 0) (o9 : ∀ v ∈ xs, v.oneCell' = true) (l9 : n ≤ 100000)
    (h11 : Reads w w.heap.size 2 B m ys) (z11 : B = none → m = 0) (o11 : ∀ v ∈ ys, v.oneCell' = true) (l11 : m ≤ 100000) (hone : ∀ v ∈ (#[u0, u1, u2, u3, u4, u5, u6, u7, u8, .slice A n c, u10, .slice B m d, u12] : Array Value).toList, v.oneCell' = true) :
    Calls Tryz.prog 44 #[.agg #[u0, u1, u2, u3, u4, u5, u6, u7, u8, .slice A n c, u10, .slice B m d, u12]] w fun e w' => ∃ A' c' B' d', e = .returned (.agg #[u0, u1, u2, u3, u4, u5, u6, u7, u8, .slice A' n c', u10, .slice B' m d', u12]) ∧ Own w' w.heap.size 9 1 A' n c' xs ∧ Own w' w.heap.size 129 2 B' m d' ys ∧ Below w.heap.size w w' := by
  have Z9 := Lib.hid z9
  have Z11 := Lib.hid z11
  have O9 := Lib.hid o9
  have O11 := Lib.hid o11
  have HO := Lib.hid hone
  clear z9 z11 o9 o11 hone
  go_enter Tryz.func44, Tryz.ntmps44
  go_wp2_with fail
  refine (clone_s A n c xs _ (((h9.alloc (Nat.le_refl _) _).alloc (by simp) _).more (by simp; omega)) Z9.out O9.out l9).mono ?_
  rintro e w1 ⟨A', c', rfl, hown1, hb1⟩
  simp only [World.size_alloc, Nat.add_assoc, Nat.reduceAdd] at hown1 hb1
  have b0 : Blk w1 w.heap.size 45 #[u0, u1, u2, u3, u4, u5, u6, u7, u8, .slice A n c, u10, .slice B m d, u12] := ((Blk.new w _ _).alloc _).below hb1 (by omega)
  have b1 : Blk w1 (w.heap.size + 1) 45 procZ := (Blk.new' (w.alloc _) _ _ (by simp)).below hb1 (by omega)
  have hsz1 : w.heap.size + 2 ≤ w1.heap.size := by have := hb1.size; simpa using this
  have hlt0 : w.heap.size < w1.heap.size := by omega
  have hlt1 : w.heap.size + 1 < w1.heap.size := by omega
  have c0_0 : w1.cell? ⟨w.heap.size, 0, none⟩ = some (u0) := b0.cell 0
  have c0_1 : w1.cell? ⟨w.heap.size, 1, none⟩ = some (u1) := b0.cell 1
  have c0_2 : w1.cell? ⟨w.heap.size, 2, none⟩ = some (u2) := b0.cell 2
  have c0_3 : w1.cell? ⟨w.heap.size, 3, none⟩ = some (u3) := b0.cell 3
  have c0_4 : w1.cell? ⟨w.heap.size, 4, none⟩ = some (u4) := b0.cell 4
  have c0_5 : w1.cell? ⟨w.heap.size, 5, none⟩ = some (u5) := b0.cell 5
  have c0_6 : w1.cell? ⟨w.heap.size, 6, none⟩ = some (u6) := b0.cell 6
  have c0_7 : w1.cell? ⟨w.heap.size, 7, none⟩ = some (u7) := b0.cell 7
  have c0_8 : w1.cell? ⟨w.heap.size, 8, none⟩ = some (u8) := b0.cell 8
  have c0_9 : w1.cell? ⟨w.heap.size, 9, none⟩ = some (.slice A n c) := b0.cell 9
  have c0_10 : w1.cell? ⟨w.heap.size, 10, none⟩ = some (u10) := b0.cell 10
  have c0_11 : w1.cell? ⟨w.heap.size, 11, none⟩ = some (.slice B m d) := b0.cell 11
  have c0_12 : w1.cell? ⟨w.heap.size, 12, none⟩ = some (u12) := b0.cell 12
  have f0 := b0.frozen
  have hR11 : Reads w1 w.heap.size 2 B m ys := ((h11.alloc (Nat.le_refl _) _).alloc (by simp) _).below (hb1.mono (by omega))
  have H11 := Lib.hid hR11
  have HW1 := Lib.hid hown1
  have HB1 := Lib.hid hb1
  have B0 := Lib.hid b0
  have B1 := Lib.hid b1
  clear hown1 hb1 b0 b1 hR11 h9 h11
  go_wp2_with fail
  refine (clone_w B m d ys _ ((H11.out.setCell (by simp) _).more (by simp [World.setCell]; omega)) Z11.out O11.out l11).mono ?_
  rintro e w2 ⟨B', d', rfl, hown2, hb2⟩
  simp only [World.size_setCell] at hown2 hb2
  have hsz2 : w1.heap.size ≤ w2.heap.size := by have := hb2.size; simpa [World.setCell] using this
  have b0 : Blk w2 w.heap.size 45 #[u0, u1, u2, u3, u4, u5, u6, u7, u8, .slice A' n c', u10, .slice B m d, u12] := (B0.out.set_ 9 _).below hb2 (by omega)
  have b1 : Blk w2 (w.heap.size + 1) 45 procZ := (B1.out.far (by simp) _).below hb2 (by omega)
  have hlt2 : w.heap.size < w2.heap.size := by omega
  have hlt3 : w.heap.size + 1 < w2.heap.size := by omega
  have c2_0 : w2.cell? ⟨w.heap.size, 0, none⟩ = some (u0) := b0.cell 0
  have c2_1 : w2.cell? ⟨w.heap.size, 1, none⟩ = some (u1) := b0.cell 1
  have c2_2 : w2.cell? ⟨w.heap.size, 2, none⟩ = some (u2) := b0.cell 2
  have c2_3 : w2.cell? ⟨w.heap.size, 3, none⟩ = some (u3) := b0.cell 3
  have c2_4 : w2.cell? ⟨w.heap.size, 4, none⟩ = some (u4) := b0.cell 4
  have c2_5 : w2.cell? ⟨w.heap.size, 5, none⟩ = some (u5) := b0.cell 5
  have c2_6 : w2.cell? ⟨w.heap.size, 6, none⟩ = some (u6) := b0.cell 6
  have c2_7 : w2.cell? ⟨w.heap.size, 7, none⟩ = some (u7) := b0.cell 7
  have c2_8 : w2.cell? ⟨w.heap.size, 8, none⟩ = some (u8) := b0.cell 8
  have c2_9 : w2.cell? ⟨w.heap.size, 9, none⟩ = some (.slice A' n c') := b0.cell 9
  have c2_10 : w2.cell? ⟨w.heap.size, 10, none⟩ = some (u10) := b0.cell 10
  have c2_11 : w2.cell? ⟨w.heap.size, 11, none⟩ = some (.slice B m d) := b0.cell 11
  have c2_12 : w2.cell? ⟨w.heap.size, 12, none⟩ = some (u12) := b0.cell 12
  have g0 := b0.frozen
  have hB1 : ∀ u, Blk (w2.setCell ⟨w.heap.size, 11, none⟩ u) (w.heap.size + 1) 45 procZ := fun u => b1.far (by simp) u
  have hone2 : ∀ v ∈ (#[u0, u1, u2, u3, u4, u5, u6, u7, u8, .slice A' n c', u10, .slice B' m d', u12] : Array Value).toList, v.oneCell' = true := by
    intro v hv
    have h := HO.out
    simp only [List.mem_cons, List.not_mem_nil, or_false] at hv h
    rcases hv with rfl | rfl | rfl | rfl | rfl | rfl | rfl | rfl | rfl | rfl | rfl | rfl | rfl <;> first | rfl | exact h _ (by simp)
  have HW2 := Lib.hid hown2
  have HB2 := Lib.hid hb2
  clear hown2 hb2 b0 b1 c0_0 c0_1 c0_2 c0_3 c0_4 c0_5 c0_6 c0_7 c0_8 c0_9 c0_10 c0_11 c0_12 f0
  go_wp2_with (refine wpList_store_blk _ rfl rfl _ _ 45 rfl (w.heap.size + 1) 13 _ _ _ sz_proc rfl rfl rfl rfl (hB1 _) hone2 ?_; intro w3 b3 hf3)
  have d3_0 : w3.cell? ⟨w.heap.size + 1, 0, none⟩ = some (u0) := b3.cell 0
  have d3_1 : w3.cell? ⟨w.heap.size + 1, 1, none⟩ = some (u1) := b3.cell 1
  have d3_2 : w3.cell? ⟨w.heap.size + 1, 2, none⟩ = some (u2) := b3.cell 2
  have d3_3 : w3.cell? ⟨w.heap.size + 1, 3, none⟩ = some (u3) := b3.cell 3
  have d3_4 : w3.cell? ⟨w.heap.size + 1, 4, none⟩ = some (u4) := b3.cell 4
  have d3_5 : w3.cell? ⟨w.heap.size + 1, 5, none⟩ = some (u5) := b3.cell 5
  have d3_6 : w3.cell? ⟨w.heap.size + 1, 6, none⟩ = some (u6) := b3.cell 6
  have d3_7 : w3.cell? ⟨w.heap.size + 1, 7, none⟩ = some (u7) := b3.cell 7
  have d3_8 : w3.cell? ⟨w.heap.size + 1, 8, none⟩ = some (u8) := b3.cell 8
  have d3_9 : w3.cell? ⟨w.heap.size + 1, 9, none⟩ = some (.slice A' n c') := b3.cell 9
  have d3_10 : w3.cell? ⟨w.heap.size + 1, 10, none⟩ = some (u10) := b3.cell 10
  have d3_11 : w3.cell? ⟨w.heap.size + 1, 11, none⟩ = some (.slice B' m d') := b3.cell 11
  have d3_12 : w3.cell? ⟨w.heap.size + 1, 12, none⟩ = some (u12) := b3.cell 12
  refine bodyPost_ret (v := .agg #[u0, u1, u2, u3, u4, u5, u6, u7, u8, .slice A' n c', u10, .slice B' m d', u12]) (by simp [results, Tryz.results44, go_sem, d3_0, d3_1, d3_2, d3_3, d3_4, d3_5, d3_6, d3_7, d3_8, d3_9, d3_10, d3_11, d3_12]) rfl ⟨A', c', B', d', rfl, ?_, ?_, ?_⟩
  · have h := ((HW1.out.setLow (by simp) _).below HB2.out (by simp [World.setCell])).setLow (p := ⟨w.heap.size, 11, none⟩) (by simp) (.slice B' m d')
    exact (h.fr hf3 (fun g off hA hg => by have := (h.lt hA).1; omega)).low (by omega)
  · have h := HW2.out.setLow (p := ⟨w.heap.size, 11, none⟩) (by show w.heap.size < w1.heap.size; omega) (.slice B' m d')
    exact (h.fr hf3 (fun g off hA hg => by have := (h.lt hA).1; omega)).low (by omega)
  · have h1 : Below w.heap.size w w1 := (((Below.refl _ _).alloc (Nat.le_refl _) _).alloc (by simp) _).trans (HB1.out.mono (by omega))
    have h2 : Below w.heap.size w w2 := (h1.setCell (by simp) _).trans (HB2.out.mono (by omega))
    exact (h2.setCell (by simp) _).trans (hf3.below (by simp [World.setCell]; omega) (fun i hi => by omega))
end Go.Proofs.YthhpdnlfhofanaaGreatDoor
namespace Go.Proofs.YthhpdnlfhofanaaGreatDoor
open Go.RowKit
set_option linter.unusedSimpArgs false
set_option linter.unusedVariables false
def notesC (l : List (List UInt8)) : List Value := l.map fun s => .string ⟨⟨s⟩⟩
def waitsC (l : List Wait) : List Value := l.flatMap fun x => [.int .i64 x.id, .string ⟨⟨x.status⟩⟩]
theorem notesC_one {l : List (List UInt8)} : ∀ v ∈ notesC l, v.oneCell' = true := by
  intro v hv
  obtain ⟨s, _, rfl⟩ := List.mem_map.1 hv
  rfl
theorem waitsC_one {l : List Wait} : ∀ v ∈ waitsC l, v.oneCell' = true := by
  intro v hv
  obtain ⟨x, _, hx⟩ := List.mem_flatMap.1 hv
  simp only [List.mem_cons, List.not_mem_nil, or_false] at hx
  rcases hx with rfl | rfl <;> rfl
theorem notesC_get {l : List (List UInt8)} {j : Nat} {u : Value} (h : (notesC l)[j]? = some u) : ∃ s, l[j]? = some s ∧ u = .string ⟨⟨s⟩⟩ := by
  unfold notesC at h
  rw [List.getElem?_map] at h
  obtain ⟨s, hs, rfl⟩ := Option.map_eq_some_iff.1 h
  exact ⟨s, hs, rfl⟩
theorem waitsC_len (l : List Wait) : (waitsC l).length = l.length * 2 := by
  induction l with
  | nil => rfl
  | cons x t ih => simp only [waitsC, List.flatMap_cons, List.length_append, List.length_cons, List.length_nil] at ih ⊢; omega
theorem waitsC_get : ∀ {l : List Wait} {j : Nat} {u : Value}, (waitsC l)[j]? = some u → ∃ x, l[j / 2]? = some x ∧ ((j % 2 = 0 ∧ u = .int .i64 x.id) ∨ (j % 2 = 1 ∧ u = .string ⟨⟨x.status⟩⟩))
  | [], j, u, h => by simp [waitsC] at h
  | x :: t, 0, u, h => by simp [waitsC] at h; exact ⟨x, rfl, .inl ⟨rfl, h.symm⟩⟩
  | x :: t, 1, u, h => by simp [waitsC] at h; exact ⟨x, rfl, .inr ⟨rfl, h.symm⟩⟩
  | x :: t, j + 2, u, h => by
    have h' : (waitsC t)[j]? = some u := by simpa [waitsC] using h
    obtain ⟨y, hy, hc⟩ := waitsC_get h'
    refine ⟨y, by rw [show (j + 2) / 2 = j / 2 + 1 by omega]; simpa using hy, ?_⟩
    rw [show (j + 2) % 2 = j % 2 by omega]; exact hc
section
variable {m : Gh} {S : Nat → Prop} {w : World}
theorem reads_notes (hS : ∀ b, S b → b < w.heap.size) {l : List (List UInt8)} {x : Value} (h : RV m S w (.lst (strV l)) x) : ∃ A c, x = .slice A l.length c ∧ Reads w w.heap.size 1 A l.length (notesC l) ∧ (A = none → l.length = 0) := by
  generalize hv : V.lst (strV l) = v at h
  cases h <;> try cases hv
  case lst0 a c =>
    injection hv with hv
    have hl : l = [] := by simpa [strV] using hv
    subst hl
    exact ⟨a, c, rfl, ⟨rfl, fun h => absurd h (Nat.lt_irrefl _)⟩, fun _ => rfl⟩
  case lst b off z c u hb hc hlen hcell hT hrv =>
    have hlen' : (strV l).length = l.length := by simp [strV]
    refine ⟨some ⟨b, off, none⟩, c, by rw [hlen'], ⟨by simp [notesC], fun _ => ⟨b, off, rfl, hS b hb, fun j v hj => ?_⟩⟩, fun h => by cases h⟩
    obtain ⟨s, hs, rfl⟩ := notesC_get hj
    have hrow : (strV l)[j]? = some [.str s] := by simp [strV, hs]
    have hz := hlen j _ hrow
    have h1 := hcell j _ 0 _ hrow rfl
    have h2 := hrv j _ 0 _ hrow rfl
    simp only [List.length_cons, List.length_nil] at hz
    subst hz
    generalize u j 0 = y at h1 h2
    cases h2
    simpa using h1
theorem reads_waits (hS : ∀ b, S b → b < w.heap.size) {l : List Wait} {x : Value} (h : RV m S w (.lst (waitV l)) x) : ∃ A c, x = .slice A l.length c ∧ Reads w w.heap.size 2 A l.length (waitsC l) ∧ (A = none → l.length = 0) := by
  generalize hv : V.lst (waitV l) = v at h
  cases h <;> try cases hv
  case lst0 a c =>
    injection hv with hv
    have hl : l = [] := by simpa [waitV] using hv
    subst hl
    exact ⟨a, c, rfl, ⟨rfl, fun h => absurd h (Nat.lt_irrefl _)⟩, fun _ => rfl⟩
  case lst b off z c u hb hc hlen hcell hT hrv =>
    have hlen' : (waitV l).length = l.length := by simp [waitV]
    refine ⟨some ⟨b, off, none⟩, c, by rw [hlen'], ⟨waitsC_len l, fun _ => ⟨b, off, rfl, hS b hb, fun j v hj => ?_⟩⟩, fun h => by cases h⟩
    obtain ⟨y, hy, hc2⟩ := waitsC_get hj
    have hrow : (waitV l)[j / 2]? = some [.int .i64 y.id, .str y.status] := by simp [waitV, hy, Wait.v]
    have hz := hlen _ _ hrow
    simp only [List.length_cons, List.length_nil] at hz
    subst hz
    rcases hc2 with ⟨h0, rfl⟩ | ⟨h0, rfl⟩
    · have h1 := hcell _ _ 0 _ hrow rfl
      have h2 := hrv _ _ 0 _ hrow rfl
      generalize u (j / 2) 0 = q at h1 h2
      cases h2
      rw [show off + j = off + j / 2 * 2 + 0 by omega]; exact h1
    · have h1 := hcell _ _ 1 _ hrow rfl
      have h2 := hrv _ _ 1 _ hrow rfl
      generalize u (j / 2) 1 = q at h1 h2
      cases h2
      rw [show off + j = off + j / 2 * 2 + 1 by omega]; exact h1
end
/-- The cells of a process whose lists are own rows. -/
def procC (p : Proc) (A B : Option Addr) (c d : Nat) : Array Value := #[.int .i64 p.id, .int .i64 p.parent, .int .i64 p.state, .string ⟨⟨p.user⟩⟩, .string ⟨⟨p.name⟩⟩, .int .i64 p.ns, .int .i64 p.env, .int .i64 p.fds, .string ⟨⟨p.cwd⟩⟩,
  .slice A p.notes.length c, .string ⟨⟨p.status⟩⟩, .slice B p.waits.length d, .bool p.alone]
/-- A process in memory, whose lists lie in blocks from lo up to hi. -/
def ProcR (p : Proc) (u : Array Value) (lo hi : Nat) (W : World) : Prop := ∃ A B c d, u = procC p A B c d ∧ Own W lo 9 1 A p.notes.length c (notesC p.notes) ∧ Own W lo 129 2 B p.waits.length d (waitsC p.waits) ∧
  (∀ g off, A = some ⟨g, off, none⟩ → g < hi) ∧ (∀ g off, B = some ⟨g, off, none⟩ → g < hi)
theorem ProcR.fr {p : Proc} {u : Array Value} {lo hi : Nat} {W W' : World} {S : Nat → Prop} (h : ProcR p u lo hi W) (hf : Fr S W W') (hS : ∀ k, S k → k < lo ∨ hi ≤ k) : ProcR p u lo hi W' := by
  obtain ⟨A, B, c, d, e, h1, h2, h3, h4⟩ := h
  refine ⟨A, B, c, d, e, h1.fr hf fun g off hg hs => ?_, h2.fr hf fun g off hg hs => ?_, h3, h4⟩
  · have := (h1.lt hg).1; have := h3 g off hg; rcases hS g hs with q | q <;> omega
  · have := (h2.lt hg).1; have := h4 g off hg; rcases hS g hs with q | q <;> omega
theorem procC_one {p : Proc} {A B : Option Addr} {c d : Nat} : ∀ v ∈ (procC p A B c d).toList, v.oneCell' = true := by
  intro v hv
  simp only [procC, List.mem_cons, List.not_mem_nil, or_false] at hv
  rcases hv with rfl | rfl | rfl | rfl | rfl | rfl | rfl | rfl | rfl | rfl | rfl | rfl | rfl <;> rfl
end Go.Proofs.YthhpdnlfhofanaaGreatDoor
namespace Go.Proofs.YthhpdnlfhofanaaGreatDoor
open Go.RowKit
set_option linter.unusedSimpArgs false
set_option linter.unusedVariables false
theorem own_any (ps : List Proc) (nx gp : Int) {S : Nat → Prop} {w : World} (hS : ∀ b, S b → b < w.heap.size) {x : Value} (hx : RV (fun _ => none) S w (.lst (procV ps)) x) (hn : ps.length ≤ 70) (h0 : 0 < ps.length)
    (hl : ∀ p ∈ ps, p.notes.length ≤ 100000 ∧ p.waits.length ≤ 100000) :
    Calls Tryz.prog 50 #[.agg #[.int .i64 nx, .int .i64 gp, x]] w fun e w' => e = .returned (.agg #[.int .i64 nx, .int .i64 gp, .slice (some ⟨w.heap.size + 2, 0, none⟩) ps.length ps.length]) ∧
      ∃ (us : Nat → Array Value) (lo hi : Nat → Nat), Below w.heap.size w w' ∧ w'.heap[w.heap.size + 2]? = some (.cells (rowsL us ps.length).toArray 45 (0, 0)) ∧
        (∀ i p, ps[i]? = some p → ProcR p (us i) (lo i) (hi i) w' ∧ (us i).size = 13 ∧ w.heap.size + 3 ≤ lo i ∧ lo i ≤ hi i ∧ hi i ≤ w'.heap.size) ∧ (∀ i k, i < k → k < ps.length → hi i ≤ lo k) := by
  generalize hv : V.lst (procV ps) = v at hx
  cases hx <;> try cases hv
  case lst0 a c =>
    injection hv with hv
    have : ps = [] := by simpa [procV] using hv
    subst this
    exact absurd h0 (Nat.lt_irrefl _)
  case lst b off z c u hb hc hlen hcell hT hrv =>
    have hlen' : (procV ps).length = ps.length := by simp [procV]
    have hrow : ∀ {j : Nat} {p : Proc}, ps[j]? = some p → (procV ps)[j]? = some p.v := fun h => by simp [procV, h]
    obtain ⟨p0, hp0⟩ : ∃ p, ps[0]? = some p := ⟨_, List.getElem?_eq_getElem h0⟩
    have hz := hlen 0 _ (hrow hp0)
    simp only [Proc.v, List.length_cons, List.length_nil] at hz
    subst hz
    rw [hlen'] at hc ⊢
    have hat : ∀ {j : Nat}, j < ps.length → ∃ p, ps[j]? = some p := fun h => ⟨_, List.getElem?_eq_getElem h⟩
    refine (own_raw (fun i us lo hi W => ∃ p, ps[i]? = some p ∧ ProcR p us lo hi W ∧ w.heap.size + 3 ≤ lo) u nx gp ps.length b off c w hn (hS b hb) ?_ ?_ ?_ ?_).mono ?_
    · intro j k hj hk
      obtain ⟨p, hp⟩ := hat hj
      exact hcell j _ k (p.v[k]'(by simpa [Proc.v] using hk)) (hrow hp) (List.getElem?_eq_getElem _)
    · intro j k hj hk
      obtain ⟨p, hp⟩ := hat hj
      have hg := List.getElem?_eq_getElem (l := p.v) (i := k) (by simpa [Proc.v] using hk)
      exact (hrv j _ k _ (hrow hp) hg).oneCell (isTree_leaf (hT j _ k _ (hrow hp) hg))
    · rintro i us a b' X Y hi ⟨p, hp, hr, hlo⟩ hk
      exact ⟨p, hp, hr.fr hk (fun k hk => .inl (by omega)), hlo⟩
    · intro j W hj hbl hW
      obtain ⟨p, hp⟩ := hat hj
      have g : ∀ k v, p.v[k]? = some v → RV (fun _ => none) S w v (u j k) := fun k v h => hrv j _ k v (hrow hp) h
      have g0 := g 0 _ rfl
      have g1 := g 1 _ rfl
      have g2 := g 2 _ rfl
      have g3 := g 3 _ rfl
      have g4 := g 4 _ rfl
      have g5 := g 5 _ rfl
      have g6 := g 6 _ rfl
      have g7 := g 7 _ rfl
      have g8 := g 8 _ rfl
      have g9 := g 9 _ rfl
      have g10 := g 10 _ rfl
      have g11 := g 11 _ rfl
      have g12 := g 12 _ rfl
      obtain ⟨A, c9, e9, r9, n9⟩ := reads_notes hS g9
      obtain ⟨B, c11, e11, r11, n11⟩ := reads_waits hS g11
      rw [e9, e11]
      generalize u j 0 = y0 at g0
      generalize u j 1 = y1 at g1
      generalize u j 2 = y2 at g2
      generalize u j 3 = y3 at g3
      generalize u j 4 = y4 at g4
      generalize u j 5 = y5 at g5
      generalize u j 6 = y6 at g6
      generalize u j 7 = y7 at g7
      generalize u j 8 = y8 at g8
      generalize u j 10 = y10 at g10
      generalize u j 12 = y12 at g12
      cases g0; cases g1; cases g2; cases g3; cases g4; cases g5; cases g6; cases g7; cases g8; cases g10; cases g12
      have hpm := hl p (List.mem_of_getElem? hp)
      refine (clone_raw _ _ _ _ _ _ _ _ _ _ _ A B _ c9 _ c11 (notesC p.notes) (waitsC p.waits) W ((r9.below hbl).more hbl.size) n9 notesC_one hpm.1 ((r11.below hbl).more hbl.size) n11 waitsC_one hpm.2 ?_).mono ?_
      · intro v hv
        simp only [List.mem_cons, List.not_mem_nil, or_false] at hv
        rcases hv with rfl | rfl | rfl | rfl | rfl | rfl | rfl | rfl | rfl | rfl | rfl | rfl | rfl <;> rfl
      · rintro e W' ⟨A', c', B', d', rfl, o1, o2, hb2⟩
        exact ⟨procC p A' B' c' d', rfl, rfl, procC_one, hb2, p, hp, ⟨A', B', c', d', rfl, o1, o2, fun g off hg => (o1.lt hg).2.1, fun g off hg => (o2.lt hg).2.1⟩, hW⟩
    · rintro e w' ⟨rfl, us, lo, hi, h1, h2, h3, h4⟩
      refine ⟨rfl, us, lo, hi, h1, h2, fun i p hp => ?_, h4⟩
      obtain ⟨⟨q, hq, hr, _⟩, a2, a3, a4, a5⟩ := h3 i (List.getElem?_eq_some_iff.1 hp).1
      rw [hp] at hq; cases hq
      exact ⟨hr, a2, a3, a4, a5⟩
end Go.Proofs.YthhpdnlfhofanaaGreatDoor
