/- The windows: what a new one is, what typing does (cut from the chapter window by prune.py). -/
import Derived.Test.YthhpdnlfhofanaaGreatDoorPtEdit
import Derived.Test.YthhpdnlfhofanaaGreatDoorEvF
namespace Go.Proofs.YthhpdnlfhofanaaGreatDoor
open Go.RowKit
set_option linter.unusedVariables false
set_option linter.unusedSimpArgs false
set_option linter.unusedVariables false
set_option linter.unusedSimpArgs false
set_option linter.unusedVariables false
set_option linter.unusedSimpArgs false
structure Window where
  id : Int
  label : List UInt8
  line : Line
  text : List UInt8
  opens : Int
  gone : Bool
  deriving Inhabited, DecidableEq
def Window.v (x : Window) : List V := [.int .i64 x.id, .str x.label, .bool x.line.raw, .str x.line.text, .lst (strV x.line.ready), .str x.text, .int .i64 x.opens, .bool x.gone]
def windowV (l : List Window) : List (List V) := l.map Window.v
theorem windowV_len (l : List Window) : (windowV l).length = l.length := by simp [windowV]
theorem windowV_row {l : List Window} {i : Nat} {f : Window} (h : l[i]? = some f) : rowAt (windowV l) (i : Int) = f.v := by simp [rowAt, windowV, List.getD, h]
theorem windowV_ok {l : List Window} {i : Nat} (h : i < l.length) : okRow (windowV l) i 8 = true := by simp [okRow, windowV, List.getElem?_eq_getElem h, Window.v]
theorem windowV_lenL (l : List Window) : lenL (windowV l) = (l.length : Int) := by simp [lenL, windowV]
theorem windowV_all (l : List Window) : List.take l.length (windowV l) = windowV l := List.take_of_length_le (by simp [windowV])
theorem windowV_all1 (l : List Window) (x : List V) : List.take (l.length + 1) (windowV l ++ [x]) = windowV l ++ [x] := List.take_of_length_le (by simp [windowV])
theorem windowV_add (l : List Window) (f : Window) : windowV l ++ [f.v] = windowV (l ++ [f]) := by simp [windowV]
theorem windowV_part {l : List Window} {i : Nat} {f : Window} (h : l[i]? = some f) (o n : Nat) : partAt (windowV l) i o n = sub f.v o n := by simp [partAt, windowV, h]
theorem windowV_put {l : List Window} {i : Nat} {f g : Window} (h : l[i]? = some f) {o : Nat} {ys : List V} (e : put f.v o ys = some g.v) : putAt (windowV l) i o ys = some (windowV (l.set i g)) := by simp [putAt, windowV, h, e]
theorem windowV_snoc {l : List Window} {j : Nat} {f : Window} (h : l[j]? = some f) : windowV (l.take j) ++ [f.v] = windowV (l.take (j + 1)) := by
  have := (List.getElem?_eq_some_iff.1 h); obtain ⟨h1, rfl⟩ := this
  unfold windowV; rw [List.take_succ_eq_append_getElem h1, List.map_append]; rfl
theorem windowV_app (a b : List Window) : windowV a ++ windowV b = windowV (a ++ b) := by simp [windowV]
theorem windowV_take (a : List Window) (n : Nat) : List.take n (windowV a) = windowV (a.take n) := by simp [windowV]
theorem windowV_drop (a : List Window) (n : Nat) : List.drop n (windowV a) = windowV (a.drop n) := by simp [windowV]
theorem windowV_set (a : List Window) (n : Nat) (f : Window) : (windowV a).set n f.v = windowV (a.set n f) := by simp [windowV]
theorem windowV_head (a : List Window) : headOkP 8 (windowV a) = true := by cases a <;> rfl
theorem windowV_get (a : List Window) (i : Nat) : (windowV a)[i]? = (a[i]?).map Window.v := by simp [windowV]
theorem Window.eqv {x y : Window} : x = y ↔ x.id = y.id ∧ x.label = y.label ∧ x.line = y.line ∧ x.text = y.text ∧ x.opens = y.opens ∧ x.gone = y.gone := by cases x; cases y; simp
theorem Window.v_inj {x y : Window} : x.v = y.v ↔ x = y := by
  cases x; cases y
  simp [Window.v, Line.eqv, strV_inj, and_assoc]
theorem windowV_inj {a b : List Window} : windowV a = windowV b ↔ a = b := List.map_inj_right fun _ _ h => Window.v_inj.1 h
def windowSh : Sh := .pair (.int .i64) (.pair .str (.pair lineSh (.pair .str (.pair (.int .i64) (.pair .bool .unit)))))
def Window.fit (x : Window) : Prop := (IntKind.i64.min ≤ x.id ∧ x.id ≤ IntKind.i64.max) ∧ x.label.length ≤ 140737488351232 ∧ Line.fit x.line ∧ x.text.length ≤ 140737488351232 ∧ (IntKind.i64.min ≤ x.opens ∧ x.opens ≤ IntKind.i64.max) ∧ True
theorem Window.fits {vs : List V} (h : Fits windowSh vs) : ∃ x : Window, vs = x.v ∧ x.fit := by
  unfold windowSh at h
  obtain ⟨u1, w1, rfl, a1, b1⟩ := h
  obtain ⟨x1, rfl, fx1⟩ := a1
  obtain ⟨u2, w2, rfl, a2, b2⟩ := b1
  obtain ⟨x2, rfl, fx2⟩ := a2
  obtain ⟨u3, w3, rfl, a3, b3⟩ := b2
  obtain ⟨x3, rfl, fx3⟩ := Line.fits a3
  obtain ⟨u4, w4, rfl, a4, b4⟩ := b3
  obtain ⟨x4, rfl, fx4⟩ := a4
  obtain ⟨u5, w5, rfl, a5, b5⟩ := b4
  obtain ⟨x5, rfl, fx5⟩ := a5
  obtain ⟨u6, w6, rfl, a6, b6⟩ := b5
  obtain ⟨x6, rfl⟩ := a6
  obtain rfl : w6 = [] := b6
  exact ⟨⟨x1, x2, x3, x4, x5, x6⟩, rfl, ⟨fx1, fx2, fx3, fx4, fx5, trivial⟩⟩

structure Windows where
  next : Int
  focus : Int
  l : List Window
  deriving Inhabited, DecidableEq
def Windows.v (x : Windows) : List V := [.int .i64 x.next, .int .i64 x.focus, .lst (windowV x.l)]
def windowsV (l : List Windows) : List (List V) := l.map Windows.v
theorem windowsV_len (l : List Windows) : (windowsV l).length = l.length := by simp [windowsV]
theorem windowsV_row {l : List Windows} {i : Nat} {f : Windows} (h : l[i]? = some f) : rowAt (windowsV l) (i : Int) = f.v := by simp [rowAt, windowsV, List.getD, h]
theorem windowsV_ok {l : List Windows} {i : Nat} (h : i < l.length) : okRow (windowsV l) i 3 = true := by simp [okRow, windowsV, List.getElem?_eq_getElem h, Windows.v]
theorem windowsV_lenL (l : List Windows) : lenL (windowsV l) = (l.length : Int) := by simp [lenL, windowsV]
theorem windowsV_all (l : List Windows) : List.take l.length (windowsV l) = windowsV l := List.take_of_length_le (by simp [windowsV])
theorem windowsV_all1 (l : List Windows) (x : List V) : List.take (l.length + 1) (windowsV l ++ [x]) = windowsV l ++ [x] := List.take_of_length_le (by simp [windowsV])
theorem windowsV_add (l : List Windows) (f : Windows) : windowsV l ++ [f.v] = windowsV (l ++ [f]) := by simp [windowsV]
theorem windowsV_part {l : List Windows} {i : Nat} {f : Windows} (h : l[i]? = some f) (o n : Nat) : partAt (windowsV l) i o n = sub f.v o n := by simp [partAt, windowsV, h]
theorem windowsV_put {l : List Windows} {i : Nat} {f g : Windows} (h : l[i]? = some f) {o : Nat} {ys : List V} (e : put f.v o ys = some g.v) : putAt (windowsV l) i o ys = some (windowsV (l.set i g)) := by simp [putAt, windowsV, h, e]
theorem windowsV_snoc {l : List Windows} {j : Nat} {f : Windows} (h : l[j]? = some f) : windowsV (l.take j) ++ [f.v] = windowsV (l.take (j + 1)) := by
  have := (List.getElem?_eq_some_iff.1 h); obtain ⟨h1, rfl⟩ := this
  unfold windowsV; rw [List.take_succ_eq_append_getElem h1, List.map_append]; rfl
theorem windowsV_app (a b : List Windows) : windowsV a ++ windowsV b = windowsV (a ++ b) := by simp [windowsV]
theorem windowsV_take (a : List Windows) (n : Nat) : List.take n (windowsV a) = windowsV (a.take n) := by simp [windowsV]
theorem windowsV_drop (a : List Windows) (n : Nat) : List.drop n (windowsV a) = windowsV (a.drop n) := by simp [windowsV]
theorem windowsV_set (a : List Windows) (n : Nat) (f : Windows) : (windowsV a).set n f.v = windowsV (a.set n f) := by simp [windowsV]
theorem windowsV_head (a : List Windows) : headOkP 3 (windowsV a) = true := by cases a <;> rfl
theorem windowsV_get (a : List Windows) (i : Nat) : (windowsV a)[i]? = (a[i]?).map Windows.v := by simp [windowsV]
theorem Windows.eqv {x y : Windows} : x = y ↔ x.next = y.next ∧ x.focus = y.focus ∧ x.l = y.l := by cases x; cases y; simp
theorem Windows.v_inj {x y : Windows} : x.v = y.v ↔ x = y := by
  cases x; cases y
  simp [Windows.v, windowV_inj, and_assoc]
theorem windowsV_inj {a b : List Windows} : windowsV a = windowsV b ↔ a = b := List.map_inj_right fun _ _ h => Windows.v_inj.1 h
def windowsSh : Sh := .pair (.int .i64) (.pair (.int .i64) (.pair (.slice 104 8 windowSh) .unit))
def Windows.fit (x : Windows) : Prop := (IntKind.i64.min ≤ x.next ∧ x.next ≤ IntKind.i64.max) ∧ (IntKind.i64.min ≤ x.focus ∧ x.focus ≤ IntKind.i64.max) ∧ (x.l.length * 104 ≤ 140737488351232 ∧ ∀ a ∈ x.l, Window.fit a)
theorem Windows.fits {vs : List V} (h : Fits windowsSh vs) : ∃ x : Windows, vs = x.v ∧ x.fit := by
  unfold windowsSh at h
  obtain ⟨u1, w1, rfl, a1, b1⟩ := h
  obtain ⟨x1, rfl, fx1⟩ := a1
  obtain ⟨u2, w2, rfl, a2, b2⟩ := b1
  obtain ⟨x2, rfl, fx2⟩ := a2
  obtain ⟨u3, w3, rfl, a3, b3⟩ := b2
  obtain ⟨rx3, rfl, lx3, ex3⟩ := a3
  obtain ⟨x3, rfl, gx3⟩ := rows_of (Window.v) (fun a => Window.fit a) (fun q hq => Window.fits (ex3 q hq).2)
  rw [List.length_map] at lx3
  obtain rfl : w3 = [] := b3
  exact ⟨⟨x1, x2, x3⟩, rfl, ⟨fx1, fx2, ⟨lx3, gx3⟩⟩⟩

set_option maxRecDepth 100000
set_option linter.unusedVariables false
set_option linter.unusedSimpArgs false
set_option maxRecDepth 100000
set_option linter.unusedVariables false
set_option linter.unusedSimpArgs false
set_option linter.unusedVariables false
set_option linter.unusedSimpArgs false
def lineZ : Line := ⟨false, [], []⟩
def winZ : Window := ⟨0, [], lineZ, [], 0, false⟩
def idxN (n : Int) : List Window → Nat → Option Nat
  | [], _ => none
  | a :: l, k => if a.id = n then some k else idxN n l (k + 1)
def idxW (l : List Window) (n : Int) : Int := match idxN n l 0 with
  | some k => (k : Int)
  | none => -1
def wAt (l : List Window) (i : Int) : Window := l.getD i.toNat winZ
def seenW (l : List Window) (id : Int) : Bool := decide (0 ≤ idxW l id) && !(wAt l (idxW l id)).gone
def soundW (x : Window) : Bool := decide (x.label.length ≤ 64) && decide (x.text.length ≤ 65536) && rightL x.line && decide (0 ≤ x.opens) && decide (x.opens ≤ 9007199254740991) && !(x.gone && decide (x.opens = 0))
def goodF (next : Int) : Int → List Window → Bool
  | last, [] => true
  | last, x :: t => decide (last < x.id) && decide (x.id < next) && soundW x && goodF next x.id t
def rightW (w : Windows) : Bool := decide (1 ≤ w.next) && decide (w.next ≤ 1048576) && decide (w.l.length ≤ 16) && goodF w.next 0 w.l && (decide (w.focus = 0) || seenW w.l w.focus)
-- files
def setW (w : Windows) (i : Int) (x : Window) : Windows := ⟨w.next, w.focus, w.l.set i.toNat x⟩
def showF (x : Window) (s : List UInt8) : Window := ⟨x.id, x.label, x.line, (x.text ++ s).drop ((x.text ++ s).length - 65536), x.opens, x.gone⟩
def makeF (w : Windows) (name : List UInt8) : Windows × Int × Int :=
  if 64 < name.length then (w, 0, 4) else if 16 ≤ w.l.length ∨ 1048575 < w.next then (w, 0, 22)
  else (⟨w.next + 1, w.next, w.l ++ [⟨w.next, name, lineZ, [], 0, false⟩]⟩, w.next, 0)
def feedW (x : Window) (s : List UInt8) : Window := showF ⟨x.id, x.label, (feedF x.line s).1, x.text, x.opens, x.gone⟩ (feedF x.line s).2
def typeW (w : Windows) (s : List UInt8) : Windows := if idxW w.l w.focus < 0 then w else setW w (idxW w.l w.focus) (feedW (wAt w.l (idxW w.l w.focus)) s)
theorem idxN_ge {s : Int} : ∀ {l : List Window} {k : Nat}, (∀ a ∈ l, a.id ≠ s) → idxN s l k = none
  | [], k, _ => rfl
  | a :: l, k, h => by
    rw [idxN, if_neg (h a (List.mem_cons_self ..))]
    exact idxN_ge fun b hb => h b (List.mem_cons_of_mem _ hb)
theorem idxN_at {s : Int} : ∀ {l : List Window} {i k : Nat} {f : Window}, l[i]? = some f → f.id = s → (∀ (j : Nat) g, j < i → l[j]? = some g → g.id ≠ s) → idxN s l k = some (k + i)
  | a :: l, 0, k, f, h, hn, _ => by
    obtain rfl : a = f := by simpa using h
    rw [idxN, if_pos hn]; rfl
  | a :: l, i + 1, k, f, h, hn, hp => by
    rw [idxN, if_neg (hp 0 a (by omega) rfl), idxN_at (l := l) (i := i) (by simpa using h) hn fun j g hj hg => hp (j + 1) g (by omega) (by simpa using hg)]
    congr 1; omega
theorem idxN_some {s : Int} : ∀ {l : List Window} {k j : Nat}, idxN s l k = some j → ∃ i f, j = k + i ∧ l[i]? = some f ∧ f.id = s
  | [], k, j, h => by cases h
  | a :: l, k, j, h => by
    rw [idxN] at h
    split at h
    · cases h; exact ⟨0, a, rfl, rfl, ‹_›⟩
    · obtain ⟨i, f, h1, h2, h3⟩ := idxN_some h
      exact ⟨i + 1, f, by omega, by simpa using h2, h3⟩
theorem idxN_set {s : Int} : ∀ {l : List Window} {i k : Nat} {f g : Window}, l[i]? = some f → g.id = f.id → idxN s (l.set i g) k = idxN s l k
  | a :: l, 0, k, f, g, h, hn => by
    obtain rfl : a = f := by simpa using h
    simp only [List.set_cons_zero, idxN, hn]
  | a :: l, i + 1, k, f, g, h, hn => by
    simp only [List.set_cons_succ, idxN]
    rw [idxN_set (l := l) (i := i) (f := f) (by simpa using h) hn]
theorem idxW_none {l : List Window} {s : Int} (h : ∀ a ∈ l, a.id ≠ s) : idxW l s = -1 := by unfold idxW; rw [idxN_ge h]
theorem idxW_at {l : List Window} {s : Int} {i : Nat} {f : Window} (h : l[i]? = some f) (hn : f.id = s) (hp : ∀ (j : Nat) g, j < i → l[j]? = some g → g.id ≠ s) : idxW l s = (i : Int) := by unfold idxW; rw [idxN_at h hn hp]; simp
theorem idxW_found {l : List Window} {id : Int} (h : 0 ≤ idxW l id) : ∃ (i : Nat) (x : Window), idxW l id = (i : Int) ∧ l[i]? = some x ∧ i < l.length ∧ x.id = id ∧ wAt l (i : Int) = x := by
  unfold idxW at h ⊢
  split at h
  · rename_i j hj
    obtain ⟨i, f, h2, h3, h4⟩ := idxN_some hj
    have hi := List.getElem?_eq_some_iff.1 h3
    refine ⟨i, f, by omega, h3, hi.1, h4, ?_⟩
    simp [wAt, List.getD, h3]
  · omega
theorem wAt_nat {l : List Window} {i : Nat} {x : Window} (h : l[i]? = some x) : wAt l (i : Int) = x := by simp [wAt, List.getD, h]
theorem idxW_set {l : List Window} {s : Int} {i : Nat} {f g : Window} (h : l[i]? = some f) (hn : g.id = f.id) : idxW (l.set i g) s = idxW l s := by unfold idxW; rw [idxN_set h hn]
theorem seenW_set {l : List Window} {s : Int} {i : Nat} {f g : Window} (h : l[i]? = some f) (hn : g.id = f.id) (hg : g.gone = f.gone) : seenW (l.set i g) s = seenW l s := by
  unfold seenW
  rw [idxW_set h hn]
  by_cases h0 : 0 ≤ idxW l s
  · obtain ⟨j, x, hj, gx, hlt, hid, hw⟩ := idxW_found h0
    rw [hj, hw]
    by_cases hij : i = j
    · subst hij
      obtain rfl : f = x := Option.some.inj (h.symm.trans gx)
      rw [wAt_nat (x := g) (by rw [List.getElem?_set_self hlt]), hg]
    · rw [wAt_nat (x := x) (by rw [List.getElem?_set_ne hij]; exact gx)]
  · rw [decide_eq_false h0]; rfl
theorem goodF_iff {next : Int} : ∀ {l : List Window} {last : Int}, goodF next last l = true ↔ (∀ x ∈ l, last < x.id ∧ x.id < next ∧ soundW x = true) ∧ l.Pairwise (fun a b => a.id < b.id)
  | [], last => by simp [goodF]
  | x :: t, last => by
    simp only [goodF, Bool.and_eq_true, decide_eq_true_eq, goodF_iff (l := t), List.pairwise_cons, List.mem_cons]
    constructor
    · rintro ⟨⟨⟨h1, h2⟩, h3⟩, h4, h5⟩
      refine ⟨?_, fun y hy => (h4 y hy).1, h5⟩
      rintro y (rfl | hy)
      · exact ⟨h1, h2, h3⟩
      · have := h4 y hy
        exact ⟨by omega, this.2⟩
    · rintro ⟨h1, h2, h3⟩
      have := h1 x (.inl rfl)
      exact ⟨⟨⟨this.1, this.2.1⟩, this.2.2⟩, fun y hy => ⟨h2 y hy, (h1 y (.inr hy)).2⟩, h3⟩
structure RightW (w : Windows) : Prop where
  next0 : 1 ≤ w.next
  next1 : w.next ≤ 1048576
  len : w.l.length ≤ 16
  ids : ∀ x ∈ w.l, 0 < x.id ∧ x.id < w.next
  sound : ∀ x ∈ w.l, soundW x = true
  asc : w.l.Pairwise (fun a b => a.id < b.id)
  focus : w.focus = 0 ∨ seenW w.l w.focus = true
theorem rightW_iff (w : Windows) : rightW w = true ↔ RightW w := by
  unfold rightW
  simp only [Bool.and_eq_true, Bool.or_eq_true, decide_eq_true_eq, goodF_iff]
  constructor
  · rintro ⟨⟨⟨⟨h1, h2⟩, h3⟩, h4, h5⟩, h6⟩
    exact ⟨h1, h2, h3, fun x hx => ⟨(h4 x hx).1, (h4 x hx).2.1⟩, fun x hx => (h4 x hx).2.2, h5, h6⟩
  · rintro ⟨h1, h2, h3, h4, h5, h6, h7⟩
    exact ⟨⟨⟨⟨h1, h2⟩, h3⟩, fun x hx => ⟨(h4 x hx).1, (h4 x hx).2, h5 x hx⟩, h6⟩, h7⟩
theorem asc_set {l : List Window} (h : l.Pairwise (fun a b => a.id < b.id)) {i : Nat} {f g : Window} (hf : l[i]? = some f) (hn : g.id = f.id) : (l.set i g).Pairwise (fun a b => a.id < b.id) := by
  rw [List.pairwise_iff_getElem]
  intro a b ha hb hab
  rw [List.length_set] at ha hb
  have e : ∀ j (hj : j < l.length), ((l.set i g)[j]'(by rw [List.length_set]; exact hj)).id = (l[j]).id := by
    intro j hj
    by_cases hij : i = j
    · subst hij
      rw [List.getElem_set_self, hn]
      obtain ⟨h1, rfl⟩ := List.getElem?_eq_some_iff.1 hf
      rfl
    · rw [List.getElem_set_ne hij]
  rw [e a ha, e b hb]
  exact List.pairwise_iff_getElem.1 h a b ha hb hab
theorem RightW.set {w : Windows} (h : RightW w) {i : Nat} {f g : Window} (hf : w.l[i]? = some f) (hn : g.id = f.id) (hg : g.gone = f.gone) (hs : soundW g = true) : RightW (setW w (i : Int) g) := by
  unfold setW
  rw [Int.toNat_natCast]
  have hm := List.mem_of_getElem? hf
  refine ⟨h.next0, h.next1, by simpa using h.len, fun x hx => ?_, fun x hx => ?_, asc_set h.asc hf hn, ?_⟩
  · rcases List.mem_or_eq_of_mem_set hx with hx | rfl
    · exact h.ids x hx
    · rw [hn]; exact h.ids f hm
  · rcases List.mem_or_eq_of_mem_set hx with hx | rfl
    · exact h.sound x hx
    · exact hs
  · simp only
    rw [seenW_set hf hn hg]
    exact h.focus
theorem soundW_iff (x : Window) : soundW x = true ↔ x.label.length ≤ 64 ∧ x.text.length ≤ 65536 ∧ rightL x.line = true ∧ 0 ≤ x.opens ∧ x.opens ≤ 9007199254740991 ∧ (x.gone = true → 0 < x.opens) := by
  unfold soundW
  simp only [Bool.and_eq_true, decide_eq_true_eq, Bool.not_eq_true', Bool.and_eq_false_iff, decide_eq_false_iff_not]
  constructor
  · rintro ⟨⟨⟨⟨⟨h1, h2⟩, h3⟩, h4⟩, h5⟩, h6⟩
    refine ⟨h1, h2, h3, h4, h5, fun hg => ?_⟩
    rcases h6 with h6 | h6
    · rw [hg] at h6; cases h6
    · omega
  · rintro ⟨h1, h2, h3, h4, h5, h6⟩
    refine ⟨⟨⟨⟨⟨h1, h2⟩, h3⟩, h4⟩, h5⟩, ?_⟩
    cases hg : x.gone
    · exact .inl rfl
    · right; have := h6 hg; omega
set_option linter.unusedVariables false
set_option linter.unusedSimpArgs false
set_option maxRecDepth 100000
theorem sound_line {x : Window} (h : soundW x = true) : rightL x.line = true := ((soundW_iff x).1 h).2.2.1
set_option maxRecDepth 100000
set_option linter.unusedVariables false
set_option linter.unusedSimpArgs false
set_option maxRecDepth 100000
set_option linter.unusedVariables false
set_option linter.unusedSimpArgs false
set_option maxRecDepth 100000
set_option linter.unusedVariables false
set_option linter.unusedSimpArgs false
set_option maxRecDepth 100000
set_option linter.unusedVariables false
set_option linter.unusedSimpArgs false
set_option maxRecDepth 100000
set_option linter.unusedVariables false
set_option linter.unusedSimpArgs false
set_option maxRecDepth 100000
set_option linter.unusedVariables false
set_option linter.unusedSimpArgs false
def smallL (l : List Window) : Prop := l.length ≤ 1000 ∧ ∀ x ∈ l, x.line.ready.length ≤ 100000 ∧ x.line.text.length ≤ 100000
def showT (t s : List UInt8) : List UInt8 := (t ++ s).drop ((t ++ s).length - 65536)
def wcloneCon : Con := fun vs bs K => match vs, bs with
  | [.agg [.int .i64 n, .int .i64 f, .lst xs]], [] => ∃ l, xs = windowV l ∧ smallL l ∧ K (.agg [.int .i64 n, .int .i64 f, .ref 0 0 l.length l.length]) [⟨true, false, true, windowV l, 0⟩]
  | _, _ => False
def idxCon : Con := fun vs bs K => match vs, bs with
  | [.agg [.int .i64 n, .int .i64 f, .lst xs], .int .i64 id], [] => ∃ l, xs = windowV l ∧ l.length ≤ 100000 ∧ K (.int .i64 (idxW l id)) []
  | _, _ => False
def ixwCon : Con := fun vs bs K => match vs, bs with
  | [.lst xs, .func 113 [] [.ptr 0 0 0]], [⟨true, true, true, [[.int .i64 s]], 0⟩] => ∃ l, xs = windowV l ∧ l.length ≤ 100000 ∧ K (.int .i64 (idxW l s)) [⟨true, true, true, [[.int .i64 s]], 0⟩]
  | _, _ => False
def showCon : Con := fun vs bs K => match vs, bs with
  | [.agg [.int .i64 id, .str lb, .bool r, .str t, .lst ys, .str tx, .int .i64 op, .bool g], .str s], [] => tx.length + s.length ≤ 4611686018427387904 ∧ K (.agg [.int .i64 id, .str lb, .bool r, .str t, .lst ys, .str (showT tx s), .int .i64 op, .bool g]) []
  | _, _ => False
structure ifwC where
  xs : List (List V)
  s : Int
  cnt : Int
structure ifwX where
  i : Int
def ifwSt (c : ifwC) (x : ifwX) : St := ⟨[(0, .lst c.xs), (1, .func 113 [] [.ptr 0 0 0]), (7, .int .i64 c.cnt), (8, .int .i64 x.i)], [(0, ⟨true, true, true, [[.int .i64 c.s]], 0⟩)]⟩
set_option maxHeartbeats 4000000 in
def ifwUn (s : St) : Option (ifwC × ifwX) :=
  match s with
  | ⟨[(q0, .lst xs), (q1, .func q2 [] [.ptr q3 q4 q5]), (q6, .int .i64 cnt), (q7, .int .i64 i)], [(q8, ⟨true, true, true, [[.int .i64 s]], q9⟩)]⟩ => bif Nat.beq q0 0 && Nat.beq q1 1 && Nat.beq q2 113 && Nat.beq q3 0 && Nat.beq q4 0 && Nat.beq q5 0 && Nat.beq q6 7 && Nat.beq q7 8 && Nat.beq q8 0 && Nat.beq q9 0 then some (⟨xs, s, cnt⟩, ⟨i⟩) else none
  | _ => none
set_option maxHeartbeats 4000000 in
def ifwL (inv : ifwC → ifwX → ifwX → Nat → Prop) : LoopS where
  C := ifwC
  X := ifwX
  st := ifwSt
  un := ifwUn
  ok := by
    intro s c x h
    unfold ifwUn at h
    split at h
    · simp only [Bool.cond_eq_ite] at h
      split at h
      · rename_i hg
        simp only [Bool.and_eq_true, Nat.beq_eq] at hg
        obtain ⟨⟨⟨⟨⟨⟨⟨⟨⟨rfl, rfl⟩, rfl⟩, rfl⟩, rfl⟩, rfl⟩, rfl⟩, rfl⟩, rfl⟩, rfl⟩ := hg
        cases h
        rfl
      · cases h
    · cases h
  inv := inv
structure clC where
  n : Int
  f : Int
  z0 : Int
  z1 : Int
  m : Nat
  k : Nat
  cnt : Int
structure clX where
  ys : List (List V)
  i : Int
def clSt (c : clC) (x : clX) : St := ⟨[(1, .ptr 0 0 0), (2, .ptr 1 0 0), (10, .int .i64 c.cnt), (11, .int .i64 x.i)], [(0, ⟨true, true, true, [[.int .i64 c.n, .int .i64 c.f, .ref 2 0 c.m c.k]], 0⟩), (1, ⟨true, true, true, [[.int .i64 c.z0, .int .i64 c.z1, .nils]], 0⟩), (2, ⟨true, false, true, x.ys, 0⟩)]⟩
set_option maxHeartbeats 4000000 in
def clUn (s : St) : Option (clC × clX) :=
  match s with
  | ⟨[(q0, .ptr q1 q2 q3), (q4, .ptr q5 q6 q7), (q8, .int .i64 cnt), (q9, .int .i64 i)], [(q10, ⟨true, true, true, [[.int .i64 n, .int .i64 f, .ref q11 q12 m k]], q13⟩), (q14, ⟨true, true, true, [[.int .i64 z0, .int .i64 z1, .nils]], q15⟩), (q16, ⟨true, false, true, ys, q17⟩)]⟩ => bif Nat.beq q0 1 && Nat.beq q1 0 && Nat.beq q2 0 && Nat.beq q3 0 && Nat.beq q4 2 && Nat.beq q5 1 && Nat.beq q6 0 && Nat.beq q7 0 && Nat.beq q8 10 && Nat.beq q9 11 && Nat.beq q10 0 && Nat.beq q11 2 && Nat.beq q12 0 && Nat.beq q13 0 && Nat.beq q14 1 && Nat.beq q15 0 && Nat.beq q16 2 && Nat.beq q17 0 then some (⟨n, f, z0, z1, m, k, cnt⟩, ⟨ys, i⟩) else none
  | _ => none
set_option maxHeartbeats 4000000 in
def clL (inv : clC → clX → clX → Nat → Prop) : LoopS where
  C := clC
  X := clX
  st := clSt
  un := clUn
  ok := by
    intro s c x h
    unfold clUn at h
    split at h
    · simp only [Bool.cond_eq_ite] at h
      split at h
      · rename_i hg
        simp only [Bool.and_eq_true, Nat.beq_eq] at hg
        obtain ⟨⟨⟨⟨⟨⟨⟨⟨⟨⟨⟨⟨⟨⟨⟨⟨⟨rfl, rfl⟩, rfl⟩, rfl⟩, rfl⟩, rfl⟩, rfl⟩, rfl⟩, rfl⟩, rfl⟩, rfl⟩, rfl⟩, rfl⟩, rfl⟩, rfl⟩, rfl⟩, rfl⟩, rfl⟩ := hg
        cases h
        rfl
      · cases h
    · cases h
  inv := inv
theorem ifw_vc [MaxL] (xs : List (List V)) (s : Int) (I : ifwC → ifwX → ifwX → Nat → Prop) (K : V → List Bk → Prop) : vcF Tryz.prog cfgN (ctOf [(113, inlC Tryz.prog cfgN (ctOf []) 113)]) (lpOf [(2, ifwL I)]) 112 [.lst xs, .func 113 [] [.ptr 0 0 0]] [⟨true, true, true, [[.int .i64 s]], 0⟩] K = (
  (∃ m4 : Nat, (((m4 : Nat) < 18446744073709551616)) ∧ (
  I (ifwC.mk xs s (lenL xs)) (ifwX.mk 0) (ifwX.mk 0) m4)) ∧ (
  ∀ x4 : (ifwL I).X, ∀ m5 : Nat, (I (ifwC.mk xs s (lenL xs)) (ifwX.mk 0) x4 m5) → (
  br (ltI x4.1 (lenL xs)) (
    need (andB (leI 0 x4.1) (ltI x4.1 (lenL xs))) (
    need (okRow xs x4.1.toNat 8) (
    ∃ n6 : Int, ∃ s7 : List UInt8, ∃ b8 : Bool, ∃ s9 : List UInt8, ∃ xs10 : List (List V), ∃ s11 : List UInt8, ∃ n12 : Int, ∃ b13 : Bool, ((sub (rowAt xs x4.1) 0 8 : Option (List V)) = some [V.int IntKind.i64 n6, V.str s7, V.bool b8, V.str s9, V.lst xs10, V.str s11, V.int IntKind.i64 n12, V.bool b13]) ∧ (
    br (eqI n6 s) (
      K (V.int IntKind.i64 x4.1) [Bk.mk true true true [[V.int IntKind.i64 s]] 0]) (
      ((ifwC.mk xs s (lenL xs) : (ifwL I).C) = ifwC.mk xs s (lenL xs)) ∧ (
      ∃ m'14 : Nat, (((m'14 : Nat) < m5)) ∧ (
      I (ifwC.mk xs s (lenL xs)) (ifwX.mk 0) (ifwX.mk (addI IntKind.i64 x4.1 1)) m'14))))))) (
    K (V.int IntKind.i64 (-1)) [Bk.mk true true true [[V.int IntKind.i64 s]] 0])))) := by kernel_rfl
theorem idx_vc [MaxL] (n f : Int) (xs : List (List V)) (id : Int) (K : V → List Bk → Prop) : vcF Tryz.prog cfgN (ctOf [(112, ixwCon)]) (lpOf []) 36 [.agg [.int .i64 n, .int .i64 f, .lst xs], .int .i64 id] [] K = (
  ∃ l5 : List Window, ((xs : List (List V)) = windowV l5) ∧ (
  (((l5.length : Nat) ≤ 100000)) ∧ (
  K (V.int IntKind.i64 (idxW l5 id)) []))) := by kernel_rfl
theorem cl_vc [MaxL] (n f : Int) (xs : List (List V)) (I : clC → clX → clX → Nat → Prop) (K : V → List Bk → Prop) : vcF Tryz.prog cfgN (ctOf []) (lpOf [(3, clL I)]) 35 [.agg [.int .i64 n, .int .i64 f, .lst xs]] [] K = (
  need (headOkP 8 xs) (
  need (leN (xs.length * 104) 140737488355328) (
  (∃ m5 : Nat, (((m5 : Nat) < 18446744073709551616)) ∧ (
  I (clC.mk n f 0 0 xs.length xs.length (Int.ofNat xs.length)) (clX.mk xs 0) (clX.mk xs 0) m5)) ∧ (
  ∀ x5 : (clL I).X, ∀ m6 : Nat, (I (clC.mk n f 0 0 xs.length xs.length (Int.ofNat xs.length)) (clX.mk xs 0) x5 m6) → (
  br (ltI x5.2 (Int.ofNat xs.length)) (
    need (andB (leI 0 x5.2) (ltI x5.2 (Int.ofNat xs.length))) (
    need (okRow x5.1 (0 + x5.2.toNat) 8) (
    ∃ xs7 : List (List V), ((partAt x5.1 (0 + x5.2.toNat) 4 1 : Option (List V)) = some [V.lst xs7]) ∧ (
    need (headOkP 1 xs7) (
    need (leN (xs7.length * 16) 140737488355328) (
    need (andB (leI 0 x5.2) (ltI x5.2 (Int.ofNat xs.length))) (
    need (okRow x5.1 (0 + x5.2.toNat) 8) (
    ∃ xs8 : List (List V), ((putAt x5.1 (0 + x5.2.toNat) 4 [V.lst (List.take xs7.length (List.drop 0 xs7))] : Option (List (List V))) = some xs8) ∧ (
    ((clC.mk n f (Int.ofNat 0) (Int.ofNat 0) xs.length xs.length (Int.ofNat xs.length) : (clL I).C) = clC.mk n f 0 0 xs.length xs.length (Int.ofNat xs.length)) ∧ (
    ∃ m'9 : Nat, (((m'9 : Nat) < m6)) ∧ (
    I (clC.mk n f 0 0 xs.length xs.length (Int.ofNat xs.length)) (clX.mk xs 0) (clX.mk xs8 (addI IntKind.i64 x5.2 1)) m'9))))))))))) (
    K (V.agg [V.int IntKind.i64 n, V.int IntKind.i64 f, V.ref 0 0 xs.length xs.length]) [Bk.mk true false true x5.1 0])))))) := by kernel_rfl
theorem shw_vc [MaxL] (id : Int) (lb : List UInt8) (r : Bool) (t : List UInt8) (ys : List (List V)) (tx : List UInt8) (op : Int) (g : Bool) (s : List UInt8) (K : V → List Bk → Prop) : vcF Tryz.prog cfgN (ctOf []) (lpOf []) 37 [.agg [.int .i64 id, .str lb, .bool r, .str t, .lst ys, .str tx, .int .i64 op, .bool g], .str s] [] K = (
  need (catOk tx s) (
  need (andB (leI 0 (maxI (subI IntKind.i64 (lenS (catS tx s)) 65536) 0)) (leI (maxI (subI IntKind.i64 (lenS (catS tx s)) 65536) 0) (lenS (catS tx s)))) (
  K (V.agg [V.int IntKind.i64 id, V.str lb, V.bool r, V.str t, V.lst ys, V.str (cutS (catS tx s) (maxI (subI IntKind.i64 (lenS (catS tx s)) 65536) 0) (lenS (catS tx s))), V.int IntKind.i64 op, V.bool g]) []))) := by kernel_rfl
set_option maxRecDepth 100000
set_option linter.unusedVariables false
set_option linter.unusedSimpArgs false
theorem at_next {l : List Window} {s : Int} {k : Nat} {f : Window} (hp : ∀ (j : Nat) g, j < k → l[j]? = some g → g.id ≠ s) (hf : l[k]? = some f) (h : f.id ≠ s) : ∀ (j : Nat) g, j < k + 1 → l[j]? = some g → g.id ≠ s := by
  intro j g hj hg
  rcases Nat.lt_or_ge j k with h1 | h1
  · exact hp j g h1 hg
  · obtain rfl : j = k := by omega
    obtain rfl := Option.some.inj (hf.symm.trans hg)
    exact h
theorem at_end {l : List Window} {s : Int} (hp : ∀ (j : Nat) g, j < l.length → l[j]? = some g → g.id ≠ s) : idxW l s = -1 := idxW_none fun a ha => by
  obtain ⟨j, hj⟩ := List.mem_iff_getElem?.1 ha
  exact hp j a (List.getElem?_eq_some_iff.1 hj).1 hj
def atI (l : List Window) (s : Int) (i : Int) (m : Nat) : Prop := ∃ k : Nat, i = (k : Int) ∧ k + m = l.length ∧ ∀ (j : Nat) g, j < k → l[j]? = some g → g.id ≠ s
theorem ixw_con [MaxL] {n : Nat} (hn : 2 ≤ n) : ConOk (evalF Tryz.prog cfgN n) 112 ixwCon := by
  intro vs bs K h
  unfold ixwCon at h
  split at h
  · rename_i xs s
    obtain ⟨l, rfl, hb, hK⟩ := h
    refine run_of (lp := lpOf [(2, ifwL fun _ _ x m => atI l s x.i m)]) (by omega) (ct := ctOf [(113, inlC Tryz.prog cfgN (ctOf []) 113)]) (fun k hk => ctOf_ok (ctOf_cons (inl_ok (by omega) (fun _ _ => noCt_ok _)) (ctOf_nil _))) ?_
    rw [ifw_vc]
    simp only [windowV_lenL]
    refine ⟨⟨l.length, by omega, 0, rfl, by omega, fun j g hj => by omega⟩, ?_⟩
    rintro ⟨i⟩ m ⟨k, rfl, hk, hp⟩
    dsimp only
    rw [br_iff]
    refine ⟨fun hlt => ?_, fun hge => ?_⟩
    · have hlt : k < l.length := by simp only [br_iff, need_iff, andB_t, andB_f, orB_t, orB_f, notB_t, notB_f, leI_t, leI_f, ltI_t, ltI_f, eqI_t, eqI_f, leN_t, leN_f, eqN_t, eqN_f, eqS_t, eqS_f, eqB_t, eqB_f, catOk_t, leC_t] at hlt; omega
      have gf : l[k]? = some l[k] := List.getElem?_eq_getElem hlt
      generalize l[k] = f at gf
      have rf := windowV_row gf
      have kf : okRow (windowV l) (Int.toNat (k : Int)) 8 = true := by simpa using windowV_ok (l := l) (i := k) hlt
      have nf : andB (leI 0 (k : Int)) (ltI (k : Int) (l.length : Int)) = true := by simp only [br_iff, need_iff, andB_t, andB_f, orB_t, orB_f, notB_t, notB_f, leI_t, leI_f, ltI_t, ltI_f, eqI_t, eqI_f, leN_t, leN_f, eqN_t, eqN_f, eqS_t, eqS_f, eqB_t, eqB_f, catOk_t, leC_t]; omega
      rw [need_iff, need_iff]
      refine ⟨nf, kf, ?_⟩
      try rw [rf]
      repeat apply Exists.intro
      refine ⟨rfl, ?_⟩
      rw [br_iff]
      refine ⟨fun g => ?_, fun g => ⟨by trivial, m - 1, by omega, k + 1, by rw [addI_i64 (by omega) (by omega)]; omega, by omega, at_next hp gf (by simp only [br_iff, need_iff, andB_t, andB_f, orB_t, orB_f, notB_t, notB_f, leI_t, leI_f, ltI_t, ltI_f, eqI_t, eqI_f, leN_t, leN_f, eqN_t, eqN_f, eqS_t, eqS_f, eqB_t, eqB_f, catOk_t, leC_t] at g; exact g)⟩⟩
      simp only [br_iff, need_iff, andB_t, andB_f, orB_t, orB_f, notB_t, notB_f, leI_t, leI_f, ltI_t, ltI_f, eqI_t, eqI_f, leN_t, leN_f, eqN_t, eqN_f, eqS_t, eqS_f, eqB_t, eqB_f, catOk_t, leC_t] at g
      rw [idxW_at gf g hp] at hK; exact hK
    · have : k = l.length := by simp only [br_iff, need_iff, andB_t, andB_f, orB_t, orB_f, notB_t, notB_f, leI_t, leI_f, ltI_t, ltI_f, eqI_t, eqI_f, leN_t, leN_f, eqN_t, eqN_f, eqS_t, eqS_f, eqB_t, eqB_f, catOk_t, leC_t] at hge; omega
      subst this
      rw [at_end hp] at hK; exact hK
  · exact h.elim
theorem idx_con [MaxL] {n : Nat} (hn : 3 ≤ n) : ConOk (evalF Tryz.prog cfgN n) 36 idxCon := by
  intro vs bs K h
  unfold idxCon at h
  split at h
  · obtain ⟨l, rfl, hb, hK⟩ := h
    refine run_of (lp := lpOf []) (by omega) (ct := ctOf [(112, ixwCon)]) (fun k hk => ctOf_ok (ctOf_cons (ixw_con (by omega)) (ctOf_nil _))) ?_
    rw [idx_vc]
    exact ⟨l, rfl, hb, hK⟩
  · exact h.elim
theorem wcl_con [MaxL] {n : Nat} (hn : 1 ≤ n) : ConOk (evalF Tryz.prog cfgN n) 35 wcloneCon := by
  intro vs bs K h
  unfold wcloneCon at h
  split at h
  · rename_i n' f' xs
    obtain ⟨l, rfl, hb, hK⟩ := h
    have hlen := hb.1
    refine run_of (lp := lpOf [(3, clL fun _ _ x m => ∃ k : Nat, x = ⟨windowV l, (k : Int)⟩ ∧ k + m = l.length)]) hn (fun k _ => noCt_ok _) ?_
    rw [cl_vc]
    simp only [windowV_len]
    rw [need_iff]; refine ⟨windowV_head _, ?_⟩
    rw [need_iff]; refine ⟨by simp only [br_iff, need_iff, andB_t, andB_f, orB_t, orB_f, notB_t, notB_f, leI_t, leI_f, ltI_t, ltI_f, eqI_t, eqI_f, leN_t, leN_f, eqN_t, eqN_f, eqS_t, eqS_f, eqB_t, eqB_f, catOk_t, leC_t]; omega, ⟨l.length, by omega, 0, rfl, by omega⟩, ?_⟩
    rintro _ m ⟨k, rfl, hk⟩
    dsimp only
    rw [br_iff]
    refine ⟨fun hlt => ?_, fun hge => hK⟩
    have hlt : k < l.length := by simp only [br_iff, need_iff, andB_t, andB_f, orB_t, orB_f, notB_t, notB_f, leI_t, leI_f, ltI_t, ltI_f, eqI_t, eqI_f, leN_t, leN_f, eqN_t, eqN_f, eqS_t, eqS_f, eqB_t, eqB_f, catOk_t, leC_t, Int.ofNat_eq_natCast] at hlt; omega
    have gf : l[k]? = some l[k] := List.getElem?_eq_getElem hlt
    generalize l[k] = f at gf
    have rf := windowV_row gf
    have kf : okRow (windowV l) (Int.toNat (k : Int)) 8 = true := by simpa using windowV_ok (l := l) (i := k) hlt
    have nf : andB (leI 0 (k : Int)) (ltI (k : Int) (l.length : Int)) = true := by simp only [br_iff, need_iff, andB_t, andB_f, orB_t, orB_f, notB_t, notB_f, leI_t, leI_f, ltI_t, ltI_f, eqI_t, eqI_f, leN_t, leN_f, eqN_t, eqN_f, eqS_t, eqS_f, eqB_t, eqB_f, catOk_t, leC_t]; omega
    have hm := hb.2 f (List.mem_of_getElem? gf)
    have hn2 : andB (leI 0 (k : Int)) (ltI (k : Int) (Int.ofNat l.length)) = true := by simp only [br_iff, need_iff, andB_t, andB_f, orB_t, orB_f, notB_t, notB_f, leI_t, leI_f, ltI_t, ltI_f, eqI_t, eqI_f, leN_t, leN_f, eqN_t, eqN_f, eqS_t, eqS_f, eqB_t, eqB_f, catOk_t, leC_t, Int.ofNat_eq_natCast]; omega
    simp only [Nat.zero_add, hn2, need_tt]
    rw [need_iff]; refine ⟨kf, strV f.line.ready, by rw [windowV_part (by simpa using gf)]; rfl, ?_⟩
    rw [need_iff]; refine ⟨strV_head _, ?_⟩
    rw [need_iff]; refine ⟨by simp only [br_iff, need_iff, andB_t, andB_f, orB_t, orB_f, notB_t, notB_f, leI_t, leI_f, ltI_t, ltI_f, eqI_t, eqI_f, leN_t, leN_f, eqN_t, eqN_f, eqS_t, eqS_f, eqB_t, eqB_f, catOk_t, leC_t, strV_len]; omega, ?_⟩
    rw [need_iff]; refine ⟨kf, windowV l, ?_, by trivial, m - 1, by omega, k + 1, by rw [addI_i64 (by omega) (by omega)]; rfl, by omega⟩
    simp only [List.drop_zero, strV_len, strV_all, Int.toNat_natCast]
    have e := windowV_put (g := f) gf (o := 4) (ys := [.lst (strV f.line.ready)]) rfl
    rw [e]
    obtain ⟨h1, rfl⟩ := List.getElem?_eq_some_iff.1 gf
    rw [List.set_getElem_self]
  · exact h.elim
theorem shw_con [MaxL] {n : Nat} (hn : 1 ≤ n) : ConOk (evalF Tryz.prog cfgN n) 37 showCon := by
  intro vs bs K h
  unfold showCon at h
  split at h
  · rename_i id lb r t ys tx op g s
    obtain ⟨hb, hK⟩ := h
    refine run_of (lp := lpOf []) hn (fun k _ => noCt_ok _) ?_
    rw [shw_vc]
    have hl : (catS tx s).length = tx.length + s.length := List.length_append
    have e1 : maxI (subI .i64 (lenS (catS tx s)) 65536) 0 = (((catS tx s).length - 65536 : Nat) : Int) := by
      rw [subI_i64 (by unfold lenS; omega) (by unfold lenS; omega)]
      unfold maxI lenS; omega
    rw [e1]
    rw [need_iff]; refine ⟨by simp only [br_iff, need_iff, andB_t, andB_f, orB_t, orB_f, notB_t, notB_f, leI_t, leI_f, ltI_t, ltI_f, eqI_t, eqI_f, leN_t, leN_f, eqN_t, eqN_f, eqS_t, eqS_f, eqB_t, eqB_f, catOk_t, leC_t]; omega, ?_⟩
    rw [need_iff]; refine ⟨by simp only [br_iff, need_iff, andB_t, andB_f, orB_t, orB_f, notB_t, notB_f, leI_t, leI_f, ltI_t, ltI_f, eqI_t, eqI_f, leN_t, leN_f, eqN_t, eqN_f, eqS_t, eqS_f, eqB_t, eqB_f, catOk_t, leC_t, lenS]; omega, ?_⟩
    have e2 : cutS (catS tx s) (((catS tx s).length - 65536 : Nat) : Int) (lenS (catS tx s)) = showT tx s := by
      simp only [cutS, lenS, Int.toNat_natCast, showT]
      exact List.take_of_length_le (by simp [catS])
    rw [e2]; exact hK
  · exact h.elim
set_option maxRecDepth 100000
set_option linter.unusedVariables false
set_option linter.unusedSimpArgs false
def makeCon : Con := fun vs bs K => match vs, bs with
  | [.agg [.int .i64 n, .int .i64 f, .lst xs], .str s], [] => ∃ l, xs = windowV l ∧ smallL l ∧ (n ≤ 9223372036854775807 ∧ -9223372036854775808 ≤ n) ∧
      K (.tup [.agg [.int .i64 (makeF ⟨n, f, l⟩ s).1.next, .int .i64 (makeF ⟨n, f, l⟩ s).1.focus, .lst (windowV (makeF ⟨n, f, l⟩ s).1.l)], .int .i64 (makeF ⟨n, f, l⟩ s).2.1, .int .i64 (makeF ⟨n, f, l⟩ s).2.2]) []
  | _, _ => False
def wtypeCon : Con := fun vs bs K => match vs, bs with
  | [.agg [.int .i64 n, .int .i64 f, .lst xs], .str s], [] => ∃ l, xs = windowV l ∧ rightW ⟨n, f, l⟩ = true ∧ s.length ≤ 100000 ∧
      K (.agg [.int .i64 (typeW ⟨n, f, l⟩ s).next, .int .i64 (typeW ⟨n, f, l⟩ s).focus, .lst (windowV (typeW ⟨n, f, l⟩ s).l)]) []
  | _, _ => False
theorem mk_vc [MaxL] (n f : Int) (xs : List (List V)) (s : List UInt8) (K : V → List Bk → Prop) : vcF Tryz.prog cfgN (ctOf [(35, wcloneCon)]) (lpOf []) 8 [.agg [.int .i64 n, .int .i64 f, .lst xs], .str s] [] K = (
  ∃ l5 : List Window, ((xs : List (List V)) = windowV l5) ∧ (
  (smallL l5) ∧ (
  br (ltI 64 (lenS s)) (
    K (V.tup [V.agg [V.int IntKind.i64 n, V.int IntKind.i64 f, V.lst (List.take l5.length (List.drop 0 (windowV l5)))], V.int IntKind.i64 0, V.int IntKind.i64 4]) []) (
    br (leI 16 (lenL xs)) (
      K (V.tup [V.agg [V.int IntKind.i64 n, V.int IntKind.i64 f, V.lst (List.take l5.length (List.drop 0 (windowV l5)))], V.int IntKind.i64 0, V.int IntKind.i64 22]) []) (
      br (ltI 1048575 n) (
        K (V.tup [V.agg [V.int IntKind.i64 n, V.int IntKind.i64 f, V.lst (List.take l5.length (List.drop 0 (windowV l5)))], V.int IntKind.i64 0, V.int IntKind.i64 22]) []) (
        need (headOkP 8 (windowV l5)) (
        br (leN (l5.length + 1) l5.length) (
          K (V.tup [V.agg [V.int IntKind.i64 (addI IntKind.i64 n 1), V.int IntKind.i64 n, V.lst (List.take (l5.length + 1) (List.drop 0 (List.take (0 + l5.length) (windowV l5) ++ [[V.int IntKind.i64 n, V.str s, V.bool false, V.str [], V.lst [], V.str [], V.int IntKind.i64 0, V.bool false]] ++ List.drop (0 + l5.length + 1) (windowV l5))))], V.int IntKind.i64 n, V.int IntKind.i64 0]) []) (
          need (eqN (0 + l5.length) (windowV l5).length) (
          need (leN ((l5.length + 1) * 104) 140737488355328) (
          K (V.tup [V.agg [V.int IntKind.i64 (addI IntKind.i64 n 1), V.int IntKind.i64 n, V.lst (List.take (l5.length + 1) (List.drop 0 (List.drop 0 (windowV l5) ++ [[V.int IntKind.i64 n, V.str s, V.bool false, V.str [], V.lst [], V.str [], V.int IntKind.i64 0, V.bool false]])))], V.int IntKind.i64 n, V.int IntKind.i64 0]) [])))))))))) := by kernel_rfl
theorem wt_vc [MaxL] (n f : Int) (xs : List (List V)) (s : List UInt8) (K : V → List Bk → Prop) : vcF Tryz.prog cfgN (ctOf [(35, wcloneCon), (36, idxCon), (10, feedCon), (37, showCon)]) (lpOf []) 9 [.agg [.int .i64 n, .int .i64 f, .lst xs], .str s] [] K = (
  ∃ l5 : List Window, ((xs : List (List V)) = windowV l5) ∧ (
  (smallL l5) ∧ (
  ∃ l6 : List Window, ((List.take l5.length (List.drop 0 (windowV l5)) : List (List V)) = windowV l6) ∧ (
  (((l6.length : Nat) ≤ 100000)) ∧ (
  br (eqI f 0) (
    K (V.agg [V.int IntKind.i64 n, V.int IntKind.i64 f, V.lst (List.take l5.length (List.drop 0 (windowV l5)))]) []) (
    br (ltI (idxW l6 f) 0) (
      K (V.agg [V.int IntKind.i64 n, V.int IntKind.i64 f, V.lst (List.take l5.length (List.drop 0 (windowV l5)))]) []) (
      need (andB (leI 0 (idxW l6 f)) (ltI (idxW l6 f) (Int.ofNat l5.length))) (
      need (okRow (windowV l5) (0 + (idxW l6 f).toNat) 8) (
      ∃ n7 : Int, ∃ s8 : List UInt8, ∃ b9 : Bool, ∃ s10 : List UInt8, ∃ xs11 : List (List V), ∃ s12 : List UInt8, ∃ n13 : Int, ∃ b14 : Bool, ((partAt (windowV l5) (0 + (idxW l6 f).toNat) 0 8 : Option (List V)) = some [V.int IntKind.i64 n7, V.str s8, V.bool b9, V.str s10, V.lst xs11, V.str s12, V.int IntKind.i64 n13, V.bool b14]) ∧ (
      ∃ l15 : List (List UInt8), ((xs11 : List (List V)) = strV l15) ∧ (
      ((rightL (Line.mk b9 s10 l15) : Bool) = true) ∧ (
      (((s.length : Nat) ≤ 100000)) ∧ (
      (((s12.length + (feedF (Line.mk b9 s10 l15) s).2.length : Nat) ≤ 4611686018427387904)) ∧ (
      need (andB (leI 0 (idxW l6 f)) (ltI (idxW l6 f) (Int.ofNat l5.length))) (
      need (okRow (windowV l5) (0 + (idxW l6 f).toNat) 8) (
      ∃ xs16 : List (List V), ((putAt (windowV l5) (0 + (idxW l6 f).toNat) 0 [V.int IntKind.i64 n7, V.str s8, V.bool (feedF (Line.mk b9 s10 l15) s).fst.1, V.str (feedF (Line.mk b9 s10 l15) s).fst.2, V.lst (strV (feedF (Line.mk b9 s10 l15) s).fst.3), V.str (showT s12 (feedF (Line.mk b9 s10 l15) s).2), V.int IntKind.i64 n13, V.bool b14] : Option (List (List V))) = some xs16) ∧ (
      K (V.agg [V.int IntKind.i64 n, V.int IntKind.i64 f, V.lst (List.take l5.length (List.drop 0 xs16))]) []))))))))))))))))) := by kernel_rfl
set_option maxRecDepth 100000
set_option linter.unusedVariables false
set_option linter.unusedSimpArgs false
section
variable {l : List Window} {i : Nat}
theorem nd (h : i < l.length) : andB (leI 0 (i : Int)) (ltI (i : Int) (Int.ofNat l.length)) = true := by simp only [br_iff, need_iff, andB_t, andB_f, orB_t, orB_f, notB_t, notB_f, leI_t, leI_f, ltI_t, ltI_f, eqI_t, eqI_f, leN_t, leN_f, eqN_t, eqN_f, eqS_t, eqS_f, eqB_t, eqB_f, catOk_t, leC_t, Int.ofNat_eq_natCast]; omega
theorem kd (h : i < l.length) : okRow (windowV l) (0 + (i : Int).toNat) 8 = true := by simpa using windowV_ok h
theorem pd {x : Window} (gx : l[i]? = some x) (o k : Nat) : partAt (windowV l) (0 + (i : Int).toNat) o k = sub x.v o k := by
  rw [Nat.zero_add, Int.toNat_natCast, windowV_part gx]
theorem ptd {x y : Window} (gx : l[i]? = some x) {o : Nat} {ys : List V} (e : put x.v o ys = some y.v) : putAt (windowV l) (0 + (i : Int).toNat) o ys = some (windowV (l.set i y)) := by
  rw [Nat.zero_add, Int.toNat_natCast]
  exact windowV_put gx e
theorem wall : List.take l.length (List.drop 0 (windowV l)) = windowV l := by rw [List.drop_zero, windowV_all]
theorem wallS (y : Window) : List.take l.length (List.drop 0 (windowV (l.set i y))) = windowV (l.set i y) := by
  rw [List.drop_zero]
  exact List.take_of_length_le (by rw [windowV_len, List.length_set]; omega)
end
theorem right_small {w : Windows} (h : RightW w) : smallL w.l := by
  have := h.len
  refine ⟨by omega, fun x hx => ?_⟩
  have hl := (rightL_iff _).1 (sound_line (h.sound x hx))
  omega
theorem mk_con [MaxL] {n : Nat} (hn : 2 ≤ n) : ConOk (evalF Tryz.prog cfgN n) 8 makeCon := by
  intro vs bs K h
  unfold makeCon at h
  split at h
  · rename_i nx f0 xs s
    obtain ⟨l, rfl, hb, hx, hK⟩ := h
    refine run_of (lp := lpOf []) (by omega) (ct := ctOf [(35, wcloneCon)]) (fun k hk => ctOf_ok (ctOf_cons (wcl_con (by omega)) (ctOf_nil _))) ?_
    rw [mk_vc]
    have f : ∀ {r}, makeF ⟨nx, f0, l⟩ s = r → K (.tup [.agg [.int .i64 r.1.next, .int .i64 r.1.focus, .lst (windowV r.1.l)], .int .i64 r.2.1, .int .i64 r.2.2]) [] := fun h => by subst h; exact hK
    have hlen := hb.1
    refine ⟨l, rfl, hb, ?_⟩
    simp only [wall, windowV_lenL]
    rw [br_iff]; refine ⟨fun g => f (r := (⟨nx, f0, l⟩, 0, 4)) (by unfold makeF; rw [if_pos (by simp only [br_iff, need_iff, andB_t, andB_f, orB_t, orB_f, notB_t, notB_f, leI_t, leI_f, ltI_t, ltI_f, eqI_t, eqI_f, leN_t, leN_f, eqN_t, eqN_f, eqS_t, eqS_f, eqB_t, eqB_f, catOk_t, leC_t, lenS] at g; omega)]), fun g1 => ?_⟩
    have g1 : ¬ 64 < s.length := by simp only [br_iff, need_iff, andB_t, andB_f, orB_t, orB_f, notB_t, notB_f, leI_t, leI_f, ltI_t, ltI_f, eqI_t, eqI_f, leN_t, leN_f, eqN_t, eqN_f, eqS_t, eqS_f, eqB_t, eqB_f, catOk_t, leC_t, lenS] at g1; omega
    rw [br_iff]; refine ⟨fun g => f (r := (⟨nx, f0, l⟩, 0, 22)) (by unfold makeF; rw [if_neg g1, if_pos (.inl (by simp only [br_iff, need_iff, andB_t, andB_f, orB_t, orB_f, notB_t, notB_f, leI_t, leI_f, ltI_t, ltI_f, eqI_t, eqI_f, leN_t, leN_f, eqN_t, eqN_f, eqS_t, eqS_f, eqB_t, eqB_f, catOk_t, leC_t] at g; simp only; omega))]), fun g2 => ?_⟩
    rw [br_iff]; refine ⟨fun g => f (r := (⟨nx, f0, l⟩, 0, 22)) (by unfold makeF; rw [if_neg g1, if_pos (.inr (by simpa only [br_iff, need_iff, andB_t, andB_f, orB_t, orB_f, notB_t, notB_f, leI_t, leI_f, ltI_t, ltI_f, eqI_t, eqI_f, leN_t, leN_f, eqN_t, eqN_f, eqS_t, eqS_f, eqB_t, eqB_f, catOk_t, leC_t] using g))]), fun g3 => ?_⟩
    simp only [br_iff, need_iff, andB_t, andB_f, orB_t, orB_f, notB_t, notB_f, leI_t, leI_f, ltI_t, ltI_f, eqI_t, eqI_f, leN_t, leN_f, eqN_t, eqN_f, eqS_t, eqS_f, eqB_t, eqB_f, catOk_t, leC_t] at g2 g3
    rw [need_iff]; refine ⟨windowV_head _, ?_⟩
    rw [br_iff]; refine ⟨fun g => by simp only [br_iff, need_iff, andB_t, andB_f, orB_t, orB_f, notB_t, notB_f, leI_t, leI_f, ltI_t, ltI_f, eqI_t, eqI_f, leN_t, leN_f, eqN_t, eqN_f, eqS_t, eqS_f, eqB_t, eqB_f, catOk_t, leC_t] at g; omega, fun _ => ?_⟩
    rw [need_iff]; refine ⟨by simp only [br_iff, need_iff, andB_t, andB_f, orB_t, orB_f, notB_t, notB_f, leI_t, leI_f, ltI_t, ltI_f, eqI_t, eqI_f, leN_t, leN_f, eqN_t, eqN_f, eqS_t, eqS_f, eqB_t, eqB_f, catOk_t, leC_t, windowV_len]; omega, ?_⟩
    rw [need_iff]; refine ⟨by simp only [br_iff, need_iff, andB_t, andB_f, orB_t, orB_f, notB_t, notB_f, leI_t, leI_f, ltI_t, ltI_f, eqI_t, eqI_f, leN_t, leN_f, eqN_t, eqN_f, eqS_t, eqS_f, eqB_t, eqB_f, catOk_t, leC_t]; omega, ?_⟩
    have e := f (r := (⟨nx + 1, nx, l ++ [⟨nx, s, lineZ, [], 0, false⟩]⟩, nx, 0)) (by unfold makeF; rw [if_neg g1, if_neg (by simp only; omega)])
    by_cases hneg : -9223372036854775808 ≤ nx
    · rw [addI_i64 (by omega) (by omega)]
      have e2 : List.take (l.length + 1) (List.drop 0 (List.drop 0 (windowV l) ++ [[V.int IntKind.i64 nx, V.str s, V.bool false, V.str [], V.lst [], V.str [], V.int IntKind.i64 0, V.bool false]])) = windowV (l ++ [⟨nx, s, lineZ, [], 0, false⟩]) := by
        rw [List.drop_zero, List.drop_zero, ← windowV_app]
        exact List.take_of_length_le (by simp [windowV_len])
      rw [e2]
      exact e
    · exact absurd hx.2 hneg
  · exact h.elim
theorem feedW_v (x : Window) (s : List UInt8) : (feedW x s).v = [.int .i64 x.id, .str x.label, .bool (feedF x.line s).1.raw, .str (feedF x.line s).1.text, .lst (strV (feedF x.line s).1.ready), .str (showT x.text (feedF x.line s).2), .int .i64 x.opens, .bool x.gone] := by
  unfold feedW showF showT Window.v
  dsimp only
theorem wt_con [MaxL] {n : Nat} (hn : 5 ≤ n) : ConOk (evalF Tryz.prog cfgN n) 9 wtypeCon := by
  intro vs bs K h
  unfold wtypeCon at h
  split at h
  · rename_i nx f0 xs s
    obtain ⟨l, rfl, hR, hs, hK⟩ := h
    have hR := (rightW_iff _).1 hR
    have hb := right_small hR
    refine run_of (lp := lpOf []) (by omega) (ct := ctOf [(35, wcloneCon), (36, idxCon), (10, feedCon), (37, showCon)])
      (fun k hk => ctOf_ok (ctOf_cons (wcl_con (by omega)) (ctOf_cons (idx_con (by omega)) (ctOf_cons (fd_con (by omega)) (ctOf_cons (shw_con (by omega)) (ctOf_nil _)))))) ?_
    rw [wt_vc]
    have f : ∀ {r}, typeW ⟨nx, f0, l⟩ s = r → K (.agg [.int .i64 r.next, .int .i64 r.focus, .lst (windowV r.l)]) [] := fun h => by subst h; exact hK
    have hlen := hb.1
    refine ⟨l, rfl, hb, ?_⟩
    simp only [wall]
    refine ⟨l, rfl, by dsimp only at hlen; omega, ?_⟩
    rw [br_iff]; refine ⟨fun g => f (r := ⟨nx, f0, l⟩) ?_, fun _ => ?_⟩
    · have g : f0 = 0 := by simpa only [br_iff, need_iff, andB_t, andB_f, orB_t, orB_f, notB_t, notB_f, leI_t, leI_f, ltI_t, ltI_f, eqI_t, eqI_f, leN_t, leN_f, eqN_t, eqN_f, eqS_t, eqS_f, eqB_t, eqB_f, catOk_t, leC_t] using g
      unfold typeW
      rw [if_pos]
      rw [idxW_none (fun a ha => by have := hR.ids a ha; simp only; omega)]; omega
    rw [br_iff]; refine ⟨fun g => f (r := ⟨nx, f0, l⟩) (by unfold typeW; rw [if_pos (by simpa only [br_iff, need_iff, andB_t, andB_f, orB_t, orB_f, notB_t, notB_f, leI_t, leI_f, ltI_t, ltI_f, eqI_t, eqI_f, leN_t, leN_f, eqN_t, eqN_f, eqS_t, eqS_f, eqB_t, eqB_f, catOk_t, leC_t] using g)]), fun g => ?_⟩
    have g : 0 ≤ idxW l f0 := by simp only [br_iff, need_iff, andB_t, andB_f, orB_t, orB_f, notB_t, notB_f, leI_t, leI_f, ltI_t, ltI_f, eqI_t, eqI_f, leN_t, leN_f, eqN_t, eqN_f, eqS_t, eqS_f, eqB_t, eqB_f, catOk_t, leC_t] at g; omega
    obtain ⟨i, x, e1, e2, e3, e4, e5⟩ := idxW_found g
    have hx := hR.sound x (List.mem_of_getElem? e2)
    have hxl := sound_line hx
    have hE := feedF_echo s hxl
    obtain ⟨_, ht, _⟩ := (soundW_iff x).1 hx
    rw [e1, nd e3, need_tt, kd e3, need_tt]
    refine ⟨x.id, x.label, x.line.raw, x.line.text, strV x.line.ready, x.text, x.opens, x.gone, by rw [pd e2]; rfl, x.line.ready, rfl, hxl, hs, ?_, ?_⟩
    · show x.text.length + (feedF x.line s).2.length ≤ _
      omega
    rw [need_iff]; refine ⟨rfl, ?_⟩
    rw [need_iff]; refine ⟨rfl, windowV (l.set i (feedW x s)), ptd e2 (by rw [feedW_v]; rfl), ?_⟩
    rw [wallS]
    exact f (r := ⟨nx, f0, l.set i (feedW x s)⟩) (by unfold typeW; simp only; rw [if_neg (by omega), e1, e5]; unfold setW; rw [Int.toNat_natCast])
  · exact h.elim
set_option maxRecDepth 100000
set_option linter.unusedVariables false
set_option linter.unusedSimpArgs false
def sameLineCon : Con := fun vs bs K => match vs, bs with
  | [.agg [.bool r, .str t, .lst xs], .agg [.bool r2, .str t2, .lst ys]], [] => ∃ l : List (List UInt8), xs = strV l ∧ ys = strV l ∧ l.length ≤ 100000 ∧ r = r2 ∧ t = t2 ∧ K (.bool true) []
  | _, _ => False
structure slC where
  r : Bool
  t : List UInt8
  xs : List (List V)
  r2 : Bool
  t2 : List UInt8
  ys : List (List V)
  cnt : Int
structure slX where
  i : Int
def slSt (c : slC) (x : slX) : St := ⟨[(2, .ptr 0 0 0), (3, .ptr 1 0 0), (29, .int .i64 c.cnt), (30, .int .i64 x.i)], [(0, ⟨true, true, true, [[.bool c.r, .str c.t, .lst c.xs]], 0⟩), (1, ⟨true, true, true, [[.bool c.r2, .str c.t2, .lst c.ys]], 0⟩)]⟩
set_option maxHeartbeats 4000000 in
def slUn (s : St) : Option (slC × slX) :=
  match s with
  | ⟨[(q0, .ptr q1 q2 q3), (q4, .ptr q5 q6 q7), (q8, .int .i64 cnt), (q9, .int .i64 i)], [(q10, ⟨true, true, true, [[.bool r, .str t, .lst xs]], q11⟩), (q12, ⟨true, true, true, [[.bool r2, .str t2, .lst ys]], q13⟩)]⟩ => bif Nat.beq q0 2 && Nat.beq q1 0 && Nat.beq q2 0 && Nat.beq q3 0 && Nat.beq q4 3 && Nat.beq q5 1 && Nat.beq q6 0 && Nat.beq q7 0 && Nat.beq q8 29 && Nat.beq q9 30 && Nat.beq q10 0 && Nat.beq q11 0 && Nat.beq q12 1 && Nat.beq q13 0 then some (⟨r, t, xs, r2, t2, ys, cnt⟩, ⟨i⟩) else none
  | _ => none
set_option maxHeartbeats 4000000 in
def slL (inv : slC → slX → slX → Nat → Prop) : LoopS where
  C := slC
  X := slX
  st := slSt
  un := slUn
  ok := by
    intro s c x h
    unfold slUn at h
    split at h
    · simp only [Bool.cond_eq_ite] at h
      split at h
      · rename_i hg
        simp only [Bool.and_eq_true, Nat.beq_eq] at hg
        obtain ⟨⟨⟨⟨⟨⟨⟨⟨⟨⟨⟨⟨⟨rfl, rfl⟩, rfl⟩, rfl⟩, rfl⟩, rfl⟩, rfl⟩, rfl⟩, rfl⟩, rfl⟩, rfl⟩, rfl⟩, rfl⟩, rfl⟩ := hg
        cases h
        rfl
      · cases h
    · cases h
  inv := inv
theorem sl_vc [MaxL] (r : Bool) (t : List UInt8) (xs : List (List V)) (r2 : Bool) (t2 : List UInt8) (ys : List (List V)) (I : slC → slX → slX → Nat → Prop) (K : V → List Bk → Prop) : vcF Tryz.prog cfgN (ctOf []) (lpOf [(4, slL I)]) 11 [.agg [.bool r, .str t, .lst xs], .agg [.bool r2, .str t2, .lst ys]] [] K = (
  br (notB (eqB r r2)) (
    K (V.bool false) []) (
    br (notB (eqS t t2)) (
      K (V.bool false) []) (
      br (notB (eqI (lenL xs) (lenL ys))) (
        K (V.bool false) []) (
        (∃ m8 : Nat, (((m8 : Nat) < 18446744073709551616)) ∧ (
        I (slC.mk r t xs r2 t2 ys (lenL xs)) (slX.mk 0) (slX.mk 0) m8)) ∧ (
        ∀ x8 : (slL I).X, ∀ m9 : Nat, (I (slC.mk r t xs r2 t2 ys (lenL xs)) (slX.mk 0) x8 m9) → (
        br (ltI x8.1 (lenL xs)) (
          need (andB (leI 0 x8.1) (ltI x8.1 (lenL xs))) (
          need (okRow xs x8.1.toNat 1) (
          ∃ s10 : List UInt8, ((sub (rowAt xs x8.1) 0 1 : Option (List V)) = some [V.str s10]) ∧ (
          need (andB (leI 0 x8.1) (ltI x8.1 (lenL ys))) (
          need (okRow ys x8.1.toNat 1) (
          ∃ s11 : List UInt8, ((sub (rowAt ys x8.1) 0 1 : Option (List V)) = some [V.str s11]) ∧ (
          br (notB (eqS s10 s11)) (
            K (V.bool false) []) (
            ((slC.mk r t xs r2 t2 ys (lenL xs) : (slL I).C) = slC.mk r t xs r2 t2 ys (lenL xs)) ∧ (
            ∃ m'12 : Nat, (((m'12 : Nat) < m9)) ∧ (
            I (slC.mk r t xs r2 t2 ys (lenL xs)) (slX.mk 0) (slX.mk (addI IntKind.i64 x8.1 1)) m'12)))))))))) (
          K (V.bool true) []))))))) := by kernel_rfl
set_option maxRecDepth 100000
set_option linter.unusedVariables false
set_option linter.unusedSimpArgs false
theorem sl_con [MaxL] {n : Nat} (hn : 1 ≤ n) : ConOk (evalF Tryz.prog cfgN n) 11 sameLineCon := by
  intro vs bs K h
  unfold sameLineCon at h
  split at h
  · rename_i r t xs r2 t2 ys
    obtain ⟨l, rfl, rfl, hb, rfl, rfl, hK⟩ := h
    refine run_of (lp := lpOf [(4, slL fun _ _ x m => ∃ k : Nat, x = ⟨(k : Int)⟩ ∧ k + m = l.length)]) (by omega) (fun k hk => noCt_ok _) ?_
    rw [sl_vc]
    simp only [strV_lenL]
    rw [br_iff]; refine ⟨fun g => by simp only [br_iff, need_iff, andB_t, andB_f, orB_t, orB_f, notB_t, notB_f, leI_t, leI_f, ltI_t, ltI_f, eqI_t, eqI_f, leN_t, leN_f, eqN_t, eqN_f, eqS_t, eqS_f, eqB_t, eqB_f, catOk_t, leC_t] at g; exact absurd rfl g, fun _ => ?_⟩
    rw [br_iff]; refine ⟨fun g => by simp only [br_iff, need_iff, andB_t, andB_f, orB_t, orB_f, notB_t, notB_f, leI_t, leI_f, ltI_t, ltI_f, eqI_t, eqI_f, leN_t, leN_f, eqN_t, eqN_f, eqS_t, eqS_f, eqB_t, eqB_f, catOk_t, leC_t] at g; exact absurd rfl g, fun _ => ?_⟩
    rw [br_iff]; refine ⟨fun g => by simp only [br_iff, need_iff, andB_t, andB_f, orB_t, orB_f, notB_t, notB_f, leI_t, leI_f, ltI_t, ltI_f, eqI_t, eqI_f, leN_t, leN_f, eqN_t, eqN_f, eqS_t, eqS_f, eqB_t, eqB_f, catOk_t, leC_t] at g; exact absurd rfl g, fun _ => ⟨⟨l.length, by omega, 0, rfl, by omega⟩, ?_⟩⟩
    rintro _ m ⟨k, rfl, hk⟩
    dsimp only
    rw [br_iff]
    refine ⟨fun hlt => ?_, fun hge => hK⟩
    have hlt : k < l.length := by simp only [br_iff, need_iff, andB_t, andB_f, orB_t, orB_f, notB_t, notB_f, leI_t, leI_f, ltI_t, ltI_f, eqI_t, eqI_f, leN_t, leN_f, eqN_t, eqN_f, eqS_t, eqS_f, eqB_t, eqB_f, catOk_t, leC_t] at hlt; omega
    have gf : l[k]? = some l[k] := List.getElem?_eq_getElem hlt
    generalize l[k] = f at gf
    have rf := strV_row gf
    have kf : okRow (strV l) (Int.toNat (k : Int)) 1 = true := by simpa using strV_ok (l := l) (i := k) hlt
    have nf : andB (leI 0 (k : Int)) (ltI (k : Int) (l.length : Int)) = true := by simp only [br_iff, need_iff, andB_t, andB_f, orB_t, orB_f, notB_t, notB_f, leI_t, leI_f, ltI_t, ltI_f, eqI_t, eqI_f, leN_t, leN_f, eqN_t, eqN_f, eqS_t, eqS_f, eqB_t, eqB_f, catOk_t, leC_t]; omega
    rw [need_iff, need_iff]
    refine ⟨nf, kf, ?_⟩
    try rw [rf]
    repeat apply Exists.intro
    refine ⟨rfl, ?_⟩
    rw [need_iff, need_iff]
    refine ⟨nf, kf, ?_⟩
    try rw [rf]
    repeat apply Exists.intro
    refine ⟨rfl, ?_⟩
    rw [br_iff]
    exact ⟨fun g => by simp only [br_iff, need_iff, andB_t, andB_f, orB_t, orB_f, notB_t, notB_f, leI_t, leI_f, ltI_t, ltI_f, eqI_t, eqI_f, leN_t, leN_f, eqN_t, eqN_f, eqS_t, eqS_f, eqB_t, eqB_f, catOk_t, leC_t] at g; exact absurd rfl g, fun _ => ⟨by trivial, m - 1, by omega, k + 1, by rw [addI_i64 (by omega) (by omega)]; rfl, by omega⟩⟩
  · exact h.elim
end Go.Proofs.YthhpdnlfhofanaaGreatDoor
namespace Go.Proofs.YthhpdnlfhofanaaGreatDoor
open Go.RowKit
set_option maxRecDepth 100000
set_option linter.unusedVariables false
set_option linter.unusedSimpArgs false
theorem pt_vc [MaxL] (s : List UInt8) (K : V → List Bk → Prop) : vcF Tryz.prog cfgN (ctOf [(7, okCon), (8, makeCon), (9, wtypeCon), (10, feedCon), (11, sameLineCon)]) (lpOf []) 3 [.str s] [] K = (
  br (ltI 2000 (lenS s)) (
    K (V.bool true) []) (
    ∃ l3 : List Window, (([] : List (List V)) = windowV l3) ∧ (
    (smallL l3) ∧ (
    ((((1 : Int) ≤ 9223372036854775807)) ∧ (
    ((-9223372036854775808 : Int) ≤ 1))) ∧ (
    ∃ l4 : List Window, ((windowV (makeF (Windows.mk 1 0 l3) (ByteArray.mk #[119]).data.toList).fst.3 : List (List V)) = windowV l4) ∧ (
    ((rightW (Windows.mk (makeF (Windows.mk 1 0 l3) (ByteArray.mk #[119]).data.toList).fst.1 (makeF (Windows.mk 1 0 l3) (ByteArray.mk #[119]).data.toList).fst.2 l4) : Bool) = true) ∧ (
    (((s.length : Nat) ≤ 100000)) ∧ (
    ∃ l5 : List (List UInt8), (([] : List (List V)) = strV l5) ∧ (
    ((rightL (Line.mk false [] l5) : Bool) = true) ∧ (
    (((s.length : Nat) ≤ 100000)) ∧ (
    br (eqI (makeF (Windows.mk 1 0 l3) (ByteArray.mk #[119]).data.toList).snd.2 0) (
      br (eqI (lenL (windowV (typeW (Windows.mk (makeF (Windows.mk 1 0 l3) (ByteArray.mk #[119]).data.toList).fst.next (makeF (Windows.mk 1 0 l3) (ByteArray.mk #[119]).data.toList).fst.focus l4) s).3)) 1) (
        need (andB true (ltI 0 (lenL (windowV (typeW (Windows.mk (makeF (Windows.mk 1 0 l3) (ByteArray.mk #[119]).data.toList).fst.next (makeF (Windows.mk 1 0 l3) (ByteArray.mk #[119]).data.toList).fst.focus l4) s).3)))) (
        need (okRow (windowV (typeW (Windows.mk (makeF (Windows.mk 1 0 l3) (ByteArray.mk #[119]).data.toList).fst.next (makeF (Windows.mk 1 0 l3) (ByteArray.mk #[119]).data.toList).fst.focus l4) s).3) 0 8) (
        ∃ b6 : Bool, ∃ s7 : List UInt8, ∃ xs8 : List (List V), ((sub (rowAt (windowV (typeW (Windows.mk (makeF (Windows.mk 1 0 l3) (ByteArray.mk #[119]).data.toList).fst.next (makeF (Windows.mk 1 0 l3) (ByteArray.mk #[119]).data.toList).fst.focus l4) s).3) 0) 2 3 : Option (List V)) = some [V.bool b6, V.str s7, V.lst xs8]) ∧ (
        ∃ l9 : List (List UInt8), ((xs8 : List (List V)) = strV l9) ∧ (
        ((strV (feedF (Line.mk false (ByteArray.mk #[]).data.toList l5) s).fst.3 : List (List V)) = strV l9) ∧ (
        (((l9.length : Nat) ≤ 100000)) ∧ (
        ((b6 : Bool) = (feedF (Line.mk false (ByteArray.mk #[]).data.toList l5) s).fst.1) ∧ (
        ((s7 : List UInt8) = (feedF (Line.mk false (ByteArray.mk #[]).data.toList l5) s).fst.2) ∧ (
        need (andB true (ltI 0 (lenL (windowV (typeW (Windows.mk (makeF (Windows.mk 1 0 l3) (ByteArray.mk #[119]).data.toList).fst.next (makeF (Windows.mk 1 0 l3) (ByteArray.mk #[119]).data.toList).fst.focus l4) s).3)))) (
        need (okRow (windowV (typeW (Windows.mk (makeF (Windows.mk 1 0 l3) (ByteArray.mk #[119]).data.toList).fst.next (makeF (Windows.mk 1 0 l3) (ByteArray.mk #[119]).data.toList).fst.focus l4) s).3) 0 8) (
        ∃ s10 : List UInt8, ((sub (rowAt (windowV (typeW (Windows.mk (makeF (Windows.mk 1 0 l3) (ByteArray.mk #[119]).data.toList).fst.next (makeF (Windows.mk 1 0 l3) (ByteArray.mk #[119]).data.toList).fst.focus l4) s).3) 0) 5 1 : Option (List V)) = some [V.str s10]) ∧ (
        br (eqS s10 (feedF (Line.mk false (ByteArray.mk #[]).data.toList l5) s).2) (
          K (V.bool true) []) (
          K (V.bool false) []))))))))))))) (
        K (V.bool false) [])) (
      K (V.bool false) [])))))))))))) := by kernel_rfl

end Go.Proofs.YthhpdnlfhofanaaGreatDoor
namespace Go.Proofs.YthhpdnlfhofanaaGreatDoor
open Go.RowKit
set_option maxRecDepth 100000
set_option linter.unusedVariables false
set_option linter.unusedSimpArgs false
def Says [MaxL] (f : Nat) (vs : List V) : Prop := ∃ r out, evalF Tryz.prog cfgN 50 f vs [] = some (r, out) ∧ r = .bool true ∧ out = []
theorem typeF_pot (l : Line) (n : Int) : (typeF l n).2.length + 3 * (typeF l n).1.text.length ≤ 3 * l.text.length + 4 := by
  have he := erasedN_le l.text n
  unfold typeF eraseF byteL
  repeat' split
  all_goals (simp only [List.length_nil, List.length_append, List.length_cons, rub_len, List.length_take]; omega)
theorem feedF_pot : ∀ (s : List UInt8) (l : Line), (feedF l s).2.length + 3 * (feedF l s).1.text.length ≤ 3 * l.text.length + 4 * s.length
  | [], l => by simp [feedF]
  | c :: s, l => by
    have := feedF_pot s (typeF l (c.toNat : Int)).1
    have := typeF_pot l (c.toNat : Int)
    simp only [feedF, List.length_append, List.length_cons]
    omega
theorem showT_all {t : List UInt8} (h : t.length ≤ 65536) : showT [] t = t := by
  unfold showT
  simp only [List.nil_append]
  rw [show t.length - 65536 = 0 by omega, List.drop_zero]
def newP : Window := ⟨1, [119], lineZ, [], 0, false⟩
theorem typed_says [MaxL] (s : List UInt8) : Says 3 [.str s] := by
  refine run_of (lp := lpOf []) (by omega) (ct := ctOf [(7, okCon), (8, makeCon), (9, wtypeCon), (10, feedCon), (11, sameLineCon)])
    (fun k hk => ctOf_ok (ctOf_cons (ok_con (by omega)) (ctOf_cons (mk_con (by omega)) (ctOf_cons (wt_con (by omega)) (ctOf_cons (fd_con (by omega)) (ctOf_cons (sl_con (by omega)) (ctOf_nil _))))))) ?_
  rw [pt_vc]
  have tt : (V.bool true = V.bool true ∧ ([] : List Bk) = []) := ⟨rfl, rfl⟩
  rw [br_iff]; refine ⟨fun _ => tt, fun g => ?_⟩
  have g : s.length ≤ 2000 := by simp only [br_iff, need_iff, andB_t, andB_f, orB_t, orB_f, notB_t, notB_f, leI_t, leI_f, ltI_t, ltI_f, eqI_t, eqI_f, leN_t, leN_f, eqN_t, eqN_f, eqS_t, eqS_f, eqB_t, eqB_f, catOk_t, leC_t, lenS] at g; omega
  have em : makeF ⟨1, 0, []⟩ (ByteArray.mk #[119]).data.toList = (⟨2, 1, [newP]⟩, 1, 0) := by decide
  have et : typeW ⟨2, 1, [newP]⟩ s = ⟨2, 1, [feedW newP s]⟩ := rfl
  refine ⟨[], rfl, ⟨by decide, by simp⟩, ⟨by omega, by omega⟩, ?_⟩
  rw [em]
  refine ⟨[newP], rfl, by decide, by omega, [], rfl, by decide, by omega, ?_⟩
  rw [et]
  have hr : rightL (feedF lineZ s).1 = true := feedF_right s (by decide)
  have hr' := (rightL_iff _).1 hr
  have hp := feedF_pot s lineZ
  have hz : lineZ.text = [] := rfl
  rw [hz, List.length_nil] at hp
  have hrow : rowAt (windowV [feedW newP s]) 0 = [V.int .i64 1, .str [119], .bool (feedF lineZ s).1.raw, .str (feedF lineZ s).1.text, .lst (strV (feedF lineZ s).1.ready), .str (showT [] (feedF lineZ s).2), .int .i64 0, .bool false] := by
    exact feedW_v newP s
  have hlen : lenL (windowV [feedW newP s]) = 1 := rfl
  have hok : okRow (windowV [feedW newP s]) 0 8 = true := windowV_ok (l := [feedW newP s]) (i := 0) (by simp)
  have hfl : (Line.mk false (ByteArray.mk #[]).data.toList []) = lineZ := rfl
  dsimp only
  rw [hlen, hrow, hfl]
  rw [br_iff]; refine ⟨fun _ => ?_, fun g1 => absurd g1 (by decide)⟩
  rw [br_iff]; refine ⟨fun _ => ?_, fun g1 => absurd g1 (by decide)⟩
  rw [need_iff]; refine ⟨by decide, ?_⟩
  rw [need_iff]; refine ⟨hok, ?_⟩
  refine ⟨_, _, _, rfl, (feedF lineZ s).1.ready, rfl, rfl, by omega, rfl, rfl, ?_⟩
  rw [need_iff]; refine ⟨by decide, ?_⟩
  rw [need_iff]; refine ⟨hok, _, rfl, ?_⟩
  rw [showT_all (by omega)]
  rw [br_iff]; refine ⟨fun _ => tt, fun g1 => ?_⟩
  simp [eqS, strEq] at g1
def strSh : List Sh := [.str]
theorem typed_fits [MaxL] {us : List V} (h : FitsAll strSh us) : Says 3 us := by
  obtain ⟨v0, r0, rfl, ⟨s, h0, hs⟩, rfl⟩ := h
  obtain rfl : v0 = .str s := by simpa using h0
  exact typed_says s
end Go.Proofs.YthhpdnlfhofanaaGreatDoor
