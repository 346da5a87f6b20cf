/- The evaluator's knobs for this program. -/
import Derived.Test.YtjplfafojmkpbaaDoorEvE
import Derived.Test.YtjplfafojmkpbaaDoorEvC
import Derived.Test.YtjplfafojmkpbaaDoorEvF
namespace Go.Proofs.YtjplfafojmkpbaaDoor
open Go.RowKit
/-- The live slots at the loops' heads. -/
def keepS : List (Nat × Nat × List Nat) := [(49, 2, [0, 1, 7, 8]), (11, 6, [1, 29, 30, 31]), (10, 5, [1, 3, 4]),
  (19, 9, [2, 27, 28, 29]), (23, 8, [2, 200009, 26, 27, 28]), (21, 8, [2, 3, 8]), (24, 7, [2, 200006, 7]), (17, 4, [2, 3, 5]),
  (25, 4, [0, 1, 5]), (43, 2, [1, 2, 5]), (35, 14, [6, 7, 13, 200014, 15]), (52, 3, [3, 4]),
  (4, 5, [100003, 12, 13, 14]), (5, 10, [100003, 8, 55, 56, 57])]
def cfgN : Cfg where
  glob := glT
  rows := fun _ => none
  prim := fun f => bif Nat.beq f 51 then some iaPrim else none
  ref := fun f => has [49, 50, 41] f
  self := fun _ => false
  bstr := fun _ => false
  clone := fun f => Nat.beq f 48
  res := fun f => bif has [36] f then 2 else bif has [13, 14, 16, 15, 18, 23, 31, 32, 33, 34, 35, 24, 47, 12] f then 1 else 0
  keep := keepOf keepS
theorem cfgN_ok : CfgOk Tryd.prog cfgN where
  prim := fun f g e => by
    simp only [cfgN, Bool.cond_eq_ite] at e
    split at e
    · rename_i h
      have h := Nat.eq_of_beq_eq_true h
      subst h; cases e
      exact @ia_prim
    · cases e
  self := fun f e => by cases e
  clone := fun f e => by
    obtain rfl := Nat.eq_of_beq_eq_true e
    exact clone_pipe
  bstr := fun f e => by cases e
theorem alive_ev {n : Nat} (h : 12 ≤ n) : evalF Tryd.prog cfgN n 9 [] [] = some (.bool true, []) := by
  obtain ⟨k, rfl⟩ : ∃ k, n = k + 12 := ⟨n - 12, by omega⟩
  kernel_rfl
end Go.Proofs.YtjplfafojmkpbaaDoor
namespace Go.Proofs.YtjplfafojmkpbaaDoor
open Go.RowKit
set_option linter.unusedVariables false
set_option linter.unusedSimpArgs false
structure End where
  data : List UInt8
  readers : Int
  writers : Int
  ever : Bool
  deriving Inhabited, DecidableEq
def End.v (x : End) : List V := [.str x.data, .int .i64 x.readers, .int .i64 x.writers, .bool x.ever]
def endV (l : List End) : List (List V) := l.map End.v
theorem endV_len (l : List End) : (endV l).length = l.length := by simp [endV]
theorem endV_row {l : List End} {i : Nat} {f : End} (h : l[i]? = some f) : rowAt (endV l) (i : Int) = f.v := by simp [rowAt, endV, List.getD, h]
theorem endV_ok {l : List End} {i : Nat} (h : i < l.length) : okRow (endV l) i 4 = true := by simp [okRow, endV, List.getElem?_eq_getElem h, End.v]
theorem endV_lenL (l : List End) : lenL (endV l) = (l.length : Int) := by simp [lenL, endV]
theorem endV_all (l : List End) : List.take l.length (endV l) = endV l := List.take_of_length_le (by simp [endV])
theorem endV_all1 (l : List End) (x : List V) : List.take (l.length + 1) (endV l ++ [x]) = endV l ++ [x] := List.take_of_length_le (by simp [endV])
theorem endV_add (l : List End) (f : End) : endV l ++ [f.v] = endV (l ++ [f]) := by simp [endV]
theorem endV_part {l : List End} {i : Nat} {f : End} (h : l[i]? = some f) (o n : Nat) : partAt (endV l) i o n = sub f.v o n := by simp [partAt, endV, h]
theorem endV_put {l : List End} {i : Nat} {f g : End} (h : l[i]? = some f) {o : Nat} {ys : List V} (e : put f.v o ys = some g.v) : putAt (endV l) i o ys = some (endV (l.set i g)) := by simp [putAt, endV, h, e]
theorem endV_snoc {l : List End} {j : Nat} {f : End} (h : l[j]? = some f) : endV (l.take j) ++ [f.v] = endV (l.take (j + 1)) := by
  have := (List.getElem?_eq_some_iff.1 h); obtain ⟨h1, rfl⟩ := this
  unfold endV; rw [List.take_succ_eq_append_getElem h1, List.map_append]; rfl
theorem endV_app (a b : List End) : endV a ++ endV b = endV (a ++ b) := by simp [endV]
theorem endV_take (a : List End) (n : Nat) : List.take n (endV a) = endV (a.take n) := by simp [endV]
theorem endV_drop (a : List End) (n : Nat) : List.drop n (endV a) = endV (a.drop n) := by simp [endV]
theorem endV_set (a : List End) (n : Nat) (f : End) : (endV a).set n f.v = endV (a.set n f) := by simp [endV]
theorem endV_head (a : List End) : headOkP 4 (endV a) = true := by cases a <;> rfl
theorem endV_get (a : List End) (i : Nat) : (endV a)[i]? = (a[i]?).map End.v := by simp [endV]
theorem End.eqv {x y : End} : x = y ↔ x.data = y.data ∧ x.readers = y.readers ∧ x.writers = y.writers ∧ x.ever = y.ever := by cases x; cases y; simp
theorem End.v_inj {x y : End} : x.v = y.v ↔ x = y := by
  cases x; cases y
  simp [End.v, and_assoc]
theorem endV_inj {a b : List End} : endV a = endV b ↔ a = b := List.map_inj_right fun _ _ h => End.v_inj.1 h
def endSh : Sh := .pair .str (.pair (.int .i64) (.pair (.int .i64) (.pair .bool .unit)))
def End.fit (x : End) : Prop := x.data.length ≤ 140737488351232 ∧ (IntKind.i64.min ≤ x.readers ∧ x.readers ≤ IntKind.i64.max) ∧ (IntKind.i64.min ≤ x.writers ∧ x.writers ≤ IntKind.i64.max) ∧ True
theorem End.fits {vs : List V} (h : Fits endSh vs) : ∃ x : End, vs = x.v ∧ x.fit := by
  unfold endSh at h
  obtain ⟨u1, w1, rfl, a1, b1⟩ := h
  obtain ⟨x1, rfl, fx1⟩ := a1
  obtain ⟨u2, w2, rfl, a2, b2⟩ := b1
  obtain ⟨x2, rfl, fx2⟩ := a2
  obtain ⟨u3, w3, rfl, a3, b3⟩ := b2
  obtain ⟨x3, rfl, fx3⟩ := a3
  obtain ⟨u4, w4, rfl, a4, b4⟩ := b3
  obtain ⟨x4, rfl⟩ := a4
  obtain rfl : w4 = [] := b4
  exact ⟨⟨x1, x2, x3, x4⟩, rfl, ⟨fx1, fx2, fx3, trivial⟩⟩

structure Pipe where
  id : Int
  ends0 : End
  ends1 : End
  deriving Inhabited, DecidableEq
def Pipe.v (x : Pipe) : List V := [.int .i64 x.id, .str x.ends0.data, .int .i64 x.ends0.readers, .int .i64 x.ends0.writers, .bool x.ends0.ever, .str x.ends1.data, .int .i64 x.ends1.readers, .int .i64 x.ends1.writers, .bool x.ends1.ever]
def pipeV (l : List Pipe) : List (List V) := l.map Pipe.v
theorem pipeV_len (l : List Pipe) : (pipeV l).length = l.length := by simp [pipeV]
theorem pipeV_row {l : List Pipe} {i : Nat} {f : Pipe} (h : l[i]? = some f) : rowAt (pipeV l) (i : Int) = f.v := by simp [rowAt, pipeV, List.getD, h]
theorem pipeV_ok {l : List Pipe} {i : Nat} (h : i < l.length) : okRow (pipeV l) i 9 = true := by simp [okRow, pipeV, List.getElem?_eq_getElem h, Pipe.v]
theorem pipeV_lenL (l : List Pipe) : lenL (pipeV l) = (l.length : Int) := by simp [lenL, pipeV]
theorem pipeV_all (l : List Pipe) : List.take l.length (pipeV l) = pipeV l := List.take_of_length_le (by simp [pipeV])
theorem pipeV_all1 (l : List Pipe) (x : List V) : List.take (l.length + 1) (pipeV l ++ [x]) = pipeV l ++ [x] := List.take_of_length_le (by simp [pipeV])
theorem pipeV_add (l : List Pipe) (f : Pipe) : pipeV l ++ [f.v] = pipeV (l ++ [f]) := by simp [pipeV]
theorem pipeV_part {l : List Pipe} {i : Nat} {f : Pipe} (h : l[i]? = some f) (o n : Nat) : partAt (pipeV l) i o n = sub f.v o n := by simp [partAt, pipeV, h]
theorem pipeV_put {l : List Pipe} {i : Nat} {f g : Pipe} (h : l[i]? = some f) {o : Nat} {ys : List V} (e : put f.v o ys = some g.v) : putAt (pipeV l) i o ys = some (pipeV (l.set i g)) := by simp [putAt, pipeV, h, e]
theorem pipeV_snoc {l : List Pipe} {j : Nat} {f : Pipe} (h : l[j]? = some f) : pipeV (l.take j) ++ [f.v] = pipeV (l.take (j + 1)) := by
  have := (List.getElem?_eq_some_iff.1 h); obtain ⟨h1, rfl⟩ := this
  unfold pipeV; rw [List.take_succ_eq_append_getElem h1, List.map_append]; rfl
theorem pipeV_app (a b : List Pipe) : pipeV a ++ pipeV b = pipeV (a ++ b) := by simp [pipeV]
theorem pipeV_take (a : List Pipe) (n : Nat) : List.take n (pipeV a) = pipeV (a.take n) := by simp [pipeV]
theorem pipeV_drop (a : List Pipe) (n : Nat) : List.drop n (pipeV a) = pipeV (a.drop n) := by simp [pipeV]
theorem pipeV_set (a : List Pipe) (n : Nat) (f : Pipe) : (pipeV a).set n f.v = pipeV (a.set n f) := by simp [pipeV]
theorem pipeV_head (a : List Pipe) : headOkP 9 (pipeV a) = true := by cases a <;> rfl
theorem pipeV_get (a : List Pipe) (i : Nat) : (pipeV a)[i]? = (a[i]?).map Pipe.v := by simp [pipeV]
theorem Pipe.eqv {x y : Pipe} : x = y ↔ x.id = y.id ∧ x.ends0 = y.ends0 ∧ x.ends1 = y.ends1 := by cases x; cases y; simp
theorem Pipe.v_inj {x y : Pipe} : x.v = y.v ↔ x = y := by
  cases x; cases y
  simp [Pipe.v, End.eqv, and_assoc]
theorem pipeV_inj {a b : List Pipe} : pipeV a = pipeV b ↔ a = b := List.map_inj_right fun _ _ h => Pipe.v_inj.1 h
def pipeSh : Sh := .pair (.int .i64) (.pair (.rep 2 endSh) .unit)
def Pipe.fit (x : Pipe) : Prop := (IntKind.i64.min ≤ x.id ∧ x.id ≤ IntKind.i64.max) ∧ End.fit x.ends0 ∧ End.fit x.ends1
theorem Pipe.fits {vs : List V} (h : Fits pipeSh vs) : ∃ x : Pipe, vs = x.v ∧ x.fit := by
  unfold pipeSh at h
  obtain ⟨u1, w1, rfl, a1, b1⟩ := h
  obtain ⟨x1, rfl, fx1⟩ := a1
  obtain ⟨u2, w2, rfl, a2, b2⟩ := b1
  obtain ⟨ps2, rfl, lp2, hp2⟩ := a2
  match ps2, lp2 with
  | [p2_0, p2_1], _ =>
  have a2_0 := hp2 p2_0 (by simp)
  obtain ⟨x2_0, rfl, fx2_0⟩ := End.fits a2_0
  have a2_1 := hp2 p2_1 (by simp)
  obtain ⟨x2_1, rfl, fx2_1⟩ := End.fits a2_1
  obtain rfl : w2 = [] := b2
  exact ⟨⟨x1, x2_0, x2_1⟩, rfl, ⟨fx1, fx2_0, fx2_1⟩⟩

structure Op where
  kind : Int
  id : Int
  mode : Int
  data : List UInt8
  deriving Inhabited, DecidableEq
def Op.v (x : Op) : List V := [.int .i64 x.kind, .int .i64 x.id, .int .i64 x.mode, .str x.data]
def opV (l : List Op) : List (List V) := l.map Op.v
theorem opV_len (l : List Op) : (opV l).length = l.length := by simp [opV]
theorem opV_row {l : List Op} {i : Nat} {f : Op} (h : l[i]? = some f) : rowAt (opV l) (i : Int) = f.v := by simp [rowAt, opV, List.getD, h]
theorem opV_ok {l : List Op} {i : Nat} (h : i < l.length) : okRow (opV l) i 4 = true := by simp [okRow, opV, List.getElem?_eq_getElem h, Op.v]
theorem opV_lenL (l : List Op) : lenL (opV l) = (l.length : Int) := by simp [lenL, opV]
theorem opV_all (l : List Op) : List.take l.length (opV l) = opV l := List.take_of_length_le (by simp [opV])
theorem opV_all1 (l : List Op) (x : List V) : List.take (l.length + 1) (opV l ++ [x]) = opV l ++ [x] := List.take_of_length_le (by simp [opV])
theorem opV_add (l : List Op) (f : Op) : opV l ++ [f.v] = opV (l ++ [f]) := by simp [opV]
theorem opV_part {l : List Op} {i : Nat} {f : Op} (h : l[i]? = some f) (o n : Nat) : partAt (opV l) i o n = sub f.v o n := by simp [partAt, opV, h]
theorem opV_put {l : List Op} {i : Nat} {f g : Op} (h : l[i]? = some f) {o : Nat} {ys : List V} (e : put f.v o ys = some g.v) : putAt (opV l) i o ys = some (opV (l.set i g)) := by simp [putAt, opV, h, e]
theorem opV_snoc {l : List Op} {j : Nat} {f : Op} (h : l[j]? = some f) : opV (l.take j) ++ [f.v] = opV (l.take (j + 1)) := by
  have := (List.getElem?_eq_some_iff.1 h); obtain ⟨h1, rfl⟩ := this
  unfold opV; rw [List.take_succ_eq_append_getElem h1, List.map_append]; rfl
theorem opV_app (a b : List Op) : opV a ++ opV b = opV (a ++ b) := by simp [opV]
theorem opV_take (a : List Op) (n : Nat) : List.take n (opV a) = opV (a.take n) := by simp [opV]
theorem opV_drop (a : List Op) (n : Nat) : List.drop n (opV a) = opV (a.drop n) := by simp [opV]
theorem opV_set (a : List Op) (n : Nat) (f : Op) : (opV a).set n f.v = opV (a.set n f) := by simp [opV]
theorem opV_head (a : List Op) : headOkP 4 (opV a) = true := by cases a <;> rfl
theorem opV_get (a : List Op) (i : Nat) : (opV a)[i]? = (a[i]?).map Op.v := by simp [opV]
theorem Op.eqv {x y : Op} : x = y ↔ x.kind = y.kind ∧ x.id = y.id ∧ x.mode = y.mode ∧ x.data = y.data := by cases x; cases y; simp
theorem Op.v_inj {x y : Op} : x.v = y.v ↔ x = y := by
  cases x; cases y
  simp [Op.v, and_assoc]
theorem opV_inj {a b : List Op} : opV a = opV b ↔ a = b := List.map_inj_right fun _ _ h => Op.v_inj.1 h
def opSh : Sh := .pair (.int .i64) (.pair (.int .i64) (.pair (.int .i64) (.pair .str .unit)))
def Op.fit (x : Op) : Prop := (IntKind.i64.min ≤ x.kind ∧ x.kind ≤ IntKind.i64.max) ∧ (IntKind.i64.min ≤ x.id ∧ x.id ≤ IntKind.i64.max) ∧ (IntKind.i64.min ≤ x.mode ∧ x.mode ≤ IntKind.i64.max) ∧ x.data.length ≤ 140737488351232
theorem Op.fits {vs : List V} (h : Fits opSh vs) : ∃ x : Op, vs = x.v ∧ x.fit := by
  unfold opSh at h
  obtain ⟨u1, w1, rfl, a1, b1⟩ := h
  obtain ⟨x1, rfl, fx1⟩ := a1
  obtain ⟨u2, w2, rfl, a2, b2⟩ := b1
  obtain ⟨x2, rfl, fx2⟩ := a2
  obtain ⟨u3, w3, rfl, a3, b3⟩ := b2
  obtain ⟨x3, rfl, fx3⟩ := a3
  obtain ⟨u4, w4, rfl, a4, b4⟩ := b3
  obtain ⟨x4, rfl, fx4⟩ := a4
  obtain rfl : w4 = [] := b4
  exact ⟨⟨x1, x2, x3, x4⟩, rfl, ⟨fx1, fx2, fx3, fx4⟩⟩

structure Dir where
  type : Int
  dev : Int
  qt : Int
  qv : Int
  qp : Int
  mode : Int
  atime : Int
  mtime : Int
  length : Int
  name : List UInt8
  uid : List UInt8
  gid : List UInt8
  muid : List UInt8
  deriving Inhabited, DecidableEq
def Dir.v (x : Dir) : List V := [.int .i64 x.type, .int .i64 x.dev, .int .i64 x.qt, .int .i64 x.qv, .int .i64 x.qp, .int .i64 x.mode, .int .i64 x.atime, .int .i64 x.mtime, .int .i64 x.length, .str x.name, .str x.uid, .str x.gid, .str x.muid]
def dirV (l : List Dir) : List (List V) := l.map Dir.v
theorem dirV_len (l : List Dir) : (dirV l).length = l.length := by simp [dirV]
theorem dirV_row {l : List Dir} {i : Nat} {f : Dir} (h : l[i]? = some f) : rowAt (dirV l) (i : Int) = f.v := by simp [rowAt, dirV, List.getD, h]
theorem dirV_ok {l : List Dir} {i : Nat} (h : i < l.length) : okRow (dirV l) i 13 = true := by simp [okRow, dirV, List.getElem?_eq_getElem h, Dir.v]
theorem dirV_lenL (l : List Dir) : lenL (dirV l) = (l.length : Int) := by simp [lenL, dirV]
theorem dirV_all (l : List Dir) : List.take l.length (dirV l) = dirV l := List.take_of_length_le (by simp [dirV])
theorem dirV_all1 (l : List Dir) (x : List V) : List.take (l.length + 1) (dirV l ++ [x]) = dirV l ++ [x] := List.take_of_length_le (by simp [dirV])
theorem dirV_add (l : List Dir) (f : Dir) : dirV l ++ [f.v] = dirV (l ++ [f]) := by simp [dirV]
theorem dirV_part {l : List Dir} {i : Nat} {f : Dir} (h : l[i]? = some f) (o n : Nat) : partAt (dirV l) i o n = sub f.v o n := by simp [partAt, dirV, h]
theorem dirV_put {l : List Dir} {i : Nat} {f g : Dir} (h : l[i]? = some f) {o : Nat} {ys : List V} (e : put f.v o ys = some g.v) : putAt (dirV l) i o ys = some (dirV (l.set i g)) := by simp [putAt, dirV, h, e]
theorem dirV_snoc {l : List Dir} {j : Nat} {f : Dir} (h : l[j]? = some f) : dirV (l.take j) ++ [f.v] = dirV (l.take (j + 1)) := by
  have := (List.getElem?_eq_some_iff.1 h); obtain ⟨h1, rfl⟩ := this
  unfold dirV; rw [List.take_succ_eq_append_getElem h1, List.map_append]; rfl
theorem dirV_app (a b : List Dir) : dirV a ++ dirV b = dirV (a ++ b) := by simp [dirV]
theorem dirV_take (a : List Dir) (n : Nat) : List.take n (dirV a) = dirV (a.take n) := by simp [dirV]
theorem dirV_drop (a : List Dir) (n : Nat) : List.drop n (dirV a) = dirV (a.drop n) := by simp [dirV]
theorem dirV_set (a : List Dir) (n : Nat) (f : Dir) : (dirV a).set n f.v = dirV (a.set n f) := by simp [dirV]
theorem dirV_head (a : List Dir) : headOkP 13 (dirV a) = true := by cases a <;> rfl
theorem dirV_get (a : List Dir) (i : Nat) : (dirV a)[i]? = (a[i]?).map Dir.v := by simp [dirV]
theorem Dir.eqv {x y : Dir} : x = y ↔ x.type = y.type ∧ x.dev = y.dev ∧ x.qt = y.qt ∧ x.qv = y.qv ∧ x.qp = y.qp ∧ x.mode = y.mode ∧ x.atime = y.atime ∧ x.mtime = y.mtime ∧ x.length = y.length ∧ x.name = y.name ∧ x.uid = y.uid ∧ x.gid = y.gid ∧ x.muid = y.muid := by cases x; cases y; simp
theorem Dir.v_inj {x y : Dir} : x.v = y.v ↔ x = y := by
  cases x; cases y
  simp [Dir.v, and_assoc]
theorem dirV_inj {a b : List Dir} : dirV a = dirV b ↔ a = b := List.map_inj_right fun _ _ h => Dir.v_inj.1 h
def dirSh : Sh := .pair (.int .i64) (.pair (.int .i64) (.pair (.int .i64) (.pair (.int .i64) (.pair (.int .i64) (.pair (.int .i64) (.pair (.int .i64) (.pair (.int .i64) (.pair (.int .i64) (.pair .str (.pair .str (.pair .str (.pair .str .unit))))))))))))
def Dir.fit (x : Dir) : Prop := (IntKind.i64.min ≤ x.type ∧ x.type ≤ IntKind.i64.max) ∧ (IntKind.i64.min ≤ x.dev ∧ x.dev ≤ IntKind.i64.max) ∧ (IntKind.i64.min ≤ x.qt ∧ x.qt ≤ IntKind.i64.max) ∧ (IntKind.i64.min ≤ x.qv ∧ x.qv ≤ IntKind.i64.max) ∧ (IntKind.i64.min ≤ x.qp ∧ x.qp ≤ IntKind.i64.max) ∧ (IntKind.i64.min ≤ x.mode ∧ x.mode ≤ IntKind.i64.max) ∧ (IntKind.i64.min ≤ x.atime ∧ x.atime ≤ IntKind.i64.max) ∧ (IntKind.i64.min ≤ x.mtime ∧ x.mtime ≤ IntKind.i64.max) ∧ (IntKind.i64.min ≤ x.length ∧ x.length ≤ IntKind.i64.max) ∧ x.name.length ≤ 140737488351232 ∧ x.uid.length ≤ 140737488351232 ∧ x.gid.length ≤ 140737488351232 ∧ x.muid.length ≤ 140737488351232
theorem Dir.fits {vs : List V} (h : Fits dirSh vs) : ∃ x : Dir, vs = x.v ∧ x.fit := by
  unfold dirSh at h
  obtain ⟨u1, w1, rfl, a1, b1⟩ := h
  obtain ⟨x1, rfl, fx1⟩ := a1
  obtain ⟨u2, w2, rfl, a2, b2⟩ := b1
  obtain ⟨x2, rfl, fx2⟩ := a2
  obtain ⟨u3, w3, rfl, a3, b3⟩ := b2
  obtain ⟨x3, rfl, fx3⟩ := a3
  obtain ⟨u4, w4, rfl, a4, b4⟩ := b3
  obtain ⟨x4, rfl, fx4⟩ := a4
  obtain ⟨u5, w5, rfl, a5, b5⟩ := b4
  obtain ⟨x5, rfl, fx5⟩ := a5
  obtain ⟨u6, w6, rfl, a6, b6⟩ := b5
  obtain ⟨x6, rfl, fx6⟩ := a6
  obtain ⟨u7, w7, rfl, a7, b7⟩ := b6
  obtain ⟨x7, rfl, fx7⟩ := a7
  obtain ⟨u8, w8, rfl, a8, b8⟩ := b7
  obtain ⟨x8, rfl, fx8⟩ := a8
  obtain ⟨u9, w9, rfl, a9, b9⟩ := b8
  obtain ⟨x9, rfl, fx9⟩ := a9
  obtain ⟨u10, w10, rfl, a10, b10⟩ := b9
  obtain ⟨x10, rfl, fx10⟩ := a10
  obtain ⟨u11, w11, rfl, a11, b11⟩ := b10
  obtain ⟨x11, rfl, fx11⟩ := a11
  obtain ⟨u12, w12, rfl, a12, b12⟩ := b11
  obtain ⟨x12, rfl, fx12⟩ := a12
  obtain ⟨u13, w13, rfl, a13, b13⟩ := b12
  obtain ⟨x13, rfl, fx13⟩ := a13
  obtain rfl : w13 = [] := b13
  exact ⟨⟨x1, x2, x3, x4, x5, x6, x7, x8, x9, x10, x11, x12, x13⟩, rfl, ⟨fx1, fx2, fx3, fx4, fx5, fx6, fx7, fx8, fx9, fx10, fx11, fx12, fx13⟩⟩

end Go.Proofs.YtjplfafojmkpbaaDoor
namespace Go.Proofs.YtjplfafojmkpbaaDoor
open Go.RowKit
set_option maxRecDepth 100000
set_option linter.unusedVariables false
set_option linter.unusedSimpArgs false
def finB (x : Pipe) : Bool := decide (x.ends0.ever = true ∧ x.ends0.readers ≤ 0 ∧ x.ends0.writers ≤ 0 ∧ x.ends1.ever = true ∧ x.ends1.readers ≤ 0 ∧ x.ends1.writers ≤ 0)

def finR (x : Pipe) : Bool := decide (x.ends0.ever = true ∧ x.ends0.readers = 0 ∧ x.ends0.writers = 0 ∧ x.ends1.ever = true ∧ x.ends1.readers = 0 ∧ x.ends1.writers = 0)

def soundB (e : End) : Bool := decide (e.data.length ≤ 8192 ∧ (0 ≤ e.readers ∧ e.readers ≤ 9007199254740991) ∧ (0 ≤ e.writers ∧ e.writers ≤ 9007199254740991) ∧ (e.ever = false → e.readers = 0 ∧ e.writers = 0))

def nextF (n : Int) (l : List Pipe) : Int := if n = 0 ∧ l = [] then 1 else n

def finCon : Con := fun vs bs K => match vs, bs with
  | [.agg cs], [] => ∃ x : Pipe, cs = x.v ∧ K (.bool (finB x)) []
  | _, _ => False

def finRCon : Con := fun vs bs K => match vs, bs with
  | [.agg cs], [] => ∃ x : Pipe, cs = x.v ∧ K (.bool (finR x)) []
  | _, _ => False

def soundCon : Con := fun vs bs K => match vs, bs with
  | [.agg cs], [] => ∃ x : End, cs = x.v ∧ K (.bool (soundB x)) []
  | _, _ => False

def nextCon : Con := fun vs bs K => match vs, bs with
  | [.agg [.int .i64 n, .lst xs]], [] => ∃ l : List Pipe, xs = pipeV l ∧ K (.int .i64 (nextF n l)) []
  | _, _ => False

structure prC where
  next : Int
  xs : List (List V)
  ys : List (List V)
  cnt : Int
structure prX where
  i : Int
def prSt (c : prC) (x : prX) : St := ⟨[(1, .ptr 0 0 0), (29, .lst c.ys), (30, .int .i64 c.cnt), (31, .int .i64 x.i)], [(0, ⟨true, true, true, [[.int .i64 c.next, .lst c.xs]]⟩)]⟩
def prUn (s : St) : Option (prC × prX) :=
  match s with
  | ⟨[(q0, .ptr q1 q2 q3), (q4, .lst ys), (q5, .int .i64 cnt), (q6, .int .i64 i)], [(q7, ⟨true, true, true, [[.int .i64 next, .lst xs]]⟩)]⟩ => bif Nat.beq q0 1 && Nat.beq q1 0 && Nat.beq q2 0 && Nat.beq q3 0 && Nat.beq q4 29 && Nat.beq q5 30 && Nat.beq q6 31 && Nat.beq q7 0 then some (⟨next, xs, ys, cnt⟩, ⟨i⟩) else none
  | _ => none
def prL (inv : prC → prX → prX → Nat → Prop) : LoopS where
  C := prC
  X := prX
  st := prSt
  un := prUn
  ok := by
    intro s c x h
    unfold prUn at h
    split at h
    · simp only [Bool.cond_eq_ite] at h
      split at h
      · rename_i hg
        simp only [Bool.and_eq_true, Nat.beq_eq] at hg
        obtain ⟨⟨⟨⟨⟨⟨⟨rfl, rfl⟩, rfl⟩, rfl⟩, rfl⟩, rfl⟩, rfl⟩, rfl⟩ := hg
        cases h
        rfl
      · cases h
    · cases h
  inv := inv

structure rrC where
  next : Int
  xs : List (List V)
  n : Int
structure rrX where
  i : Int
def rrSt (c : rrC) (x : rrX) : St := ⟨[(1, .ptr 0 0 0), (3, .int .i64 c.n), (4, .int .i64 x.i)], [(0, ⟨true, true, true, [[.int .i64 c.next, .lst c.xs]]⟩)]⟩
def rrUn (s : St) : Option (rrC × rrX) :=
  match s with
  | ⟨[(q0, .ptr q1 q2 q3), (q4, .int .i64 n), (q5, .int .i64 i)], [(q6, ⟨true, true, true, [[.int .i64 next, .lst xs]]⟩)]⟩ => bif Nat.beq q0 1 && Nat.beq q1 0 && Nat.beq q2 0 && Nat.beq q3 0 && Nat.beq q4 3 && Nat.beq q5 4 && Nat.beq q6 0 then some (⟨next, xs, n⟩, ⟨i⟩) else none
  | _ => none
def rrL (inv : rrC → rrX → rrX → Nat → Prop) : LoopS where
  C := rrC
  X := rrX
  st := rrSt
  un := rrUn
  ok := by
    intro s c x h
    unfold rrUn at h
    split at h
    · simp only [Bool.cond_eq_ite] at h
      split at h
      · rename_i hg
        simp only [Bool.and_eq_true, Nat.beq_eq] at hg
        obtain ⟨⟨⟨⟨⟨⟨rfl, rfl⟩, rfl⟩, rfl⟩, rfl⟩, rfl⟩, rfl⟩ := hg
        cases h
        rfl
      · cases h
    · cases h
  inv := inv

theorem fin_vc (x : Pipe) (K : V → List Bk → Prop) : vcF Tryd.prog cfgN (ctOf []) (lpOf [(2, unrL 3)]) 29 [.agg x.v] [] K = (
  br (notB x.ends0.4) (
    K (V.bool false) []) (
    br (ltI 0 x.ends0.2) (
      K (V.bool false) []) (
      br (ltI 0 x.ends0.3) (
        K (V.bool false) []) (
        br (notB x.ends1.4) (
          K (V.bool false) []) (
          br (ltI 0 x.ends1.2) (
            K (V.bool false) []) (
            br (ltI 0 x.ends1.3) (
              K (V.bool false) []) (
              K (V.bool true) []))))))) := by kernel_rfl

theorem finr_vc (x : Pipe) (K : V → List Bk → Prop) : vcF Tryd.prog cfgN (ctOf []) (lpOf []) 28 [.agg x.v] [] K = (
  br (x.ends0.4) (
    br (x.ends1.4) (
      br (eqI x.ends0.2 0) (
        br (eqI x.ends0.3 0) (
          br (eqI x.ends1.2 0) (
            K (V.bool (eqI x.ends1.3 0)) []) (
            K (V.bool false) [])) (
          K (V.bool false) [])) (
        K (V.bool false) [])) (
      K (V.bool false) [])) (
    K (V.bool false) [])) := by kernel_rfl

theorem snd_vc (x : End) (K : V → List Bk → Prop) : vcF Tryd.prog cfgN (ctOf []) (lpOf []) 30 [.agg x.v] [] K = (
  br (ltI 8192 (lenS x.1)) (
    K (V.bool false) []) (
    br (ltI (minI x.2 x.3) 0) (
      K (V.bool false) []) (
      br (ltI 9007199254740991 (maxI x.2 x.3)) (
        K (V.bool false) []) (
        br (x.4) (
          K (V.bool true) []) (
          br (eqI x.2 0) (
            K (V.bool (eqI x.3 0)) []) (
            K (V.bool false) [])))))) := by kernel_rfl

theorem end_vc (x : End) (K : V → List Bk → Prop) : vcF Tryd.prog cfgN (ctOf []) (lpOf []) 27 [.agg x.v] [] K = (
  br (ltI 8192 (lenS x.1)) (
    K (V.bool false) []) (
    br (ltI x.2 0) (
      K (V.bool false) []) (
      br (ltI 9007199254740991 x.2) (
        K (V.bool false) []) (
        br (ltI x.3 0) (
          K (V.bool false) []) (
          br (ltI 9007199254740991 x.3) (
            K (V.bool false) []) (
            br (x.4) (
              K (V.bool true) []) (
              br (eqI x.2 0) (
                K (V.bool (eqI x.3 0)) []) (
                K (V.bool false) [])))))))) := by kernel_rfl

theorem next_vc (n : Int) (xs : List (List V)) (K : V → List Bk → Prop) : vcF Tryd.prog cfgN (ctOf []) (lpOf []) 26 [.agg [.int .i64 n, .lst xs]] [] K = (
  br (eqI n 0) (
    br (eqI (lenL xs) 0) (
      K (V.int IntKind.i64 1) []) (
      K (V.int IntKind.i64 n) [])) (
    K (V.int IntKind.i64 n) [])) := by kernel_rfl

theorem base_vc (m : Int) (K : V → List Bk → Prop) : vcF Tryd.prog cfgN (ctOf []) (lpOf [(5, unrL 3)]) 38 [.int .i64 m] [] K = (
  br (ltI m 0) (
    K (V.tup [V.int IntKind.i64 0, V.bool false]) []) (
    ∃ n2 : Int, ((some [V.int IntKind.i64 16] : Option (List V)) = some [V.int IntKind.i64 n2]) ∧ (
    need (notB (eqI n2 0)) (
    br (eqI ((quoI IntKind.i64 m n2).tmod 2) 1) (
      ∃ n3 : Int, ((some [V.int IntKind.i64 64] : Option (List V)) = some [V.int IntKind.i64 n3]) ∧ (
      need (notB (eqI n3 0)) (
      br (eqI ((quoI IntKind.i64 m n3).tmod 2) 1) (
        br (leI 0 (subI IntKind.i64 (subI IntKind.i64 m n2) n3)) (
          K (V.tup [V.int IntKind.i64 (subI IntKind.i64 (subI IntKind.i64 m n2) n3), V.bool (leI (subI IntKind.i64 (subI IntKind.i64 m n2) n3) 3)]) []) (
          K (V.tup [V.int IntKind.i64 (subI IntKind.i64 (subI IntKind.i64 m n2) n3), V.bool false]) [])) (
        br (leI 0 (subI IntKind.i64 m n2)) (
          K (V.tup [V.int IntKind.i64 (subI IntKind.i64 m n2), V.bool (leI (subI IntKind.i64 m n2) 3)]) []) (
          K (V.tup [V.int IntKind.i64 (subI IntKind.i64 m n2), V.bool false]) []))))) (
      ∃ n3 : Int, ((some [V.int IntKind.i64 64] : Option (List V)) = some [V.int IntKind.i64 n3]) ∧ (
      need (notB (eqI n3 0)) (
      br (eqI ((quoI IntKind.i64 m n3).tmod 2) 1) (
        br (leI 0 (subI IntKind.i64 m n3)) (
          K (V.tup [V.int IntKind.i64 (subI IntKind.i64 m n3), V.bool (leI (subI IntKind.i64 m n3) 3)]) []) (
          K (V.tup [V.int IntKind.i64 (subI IntKind.i64 m n3), V.bool false]) [])) (
        br (leI 0 m) (
          K (V.tup [V.int IntKind.i64 m, V.bool (leI m 3)]) []) (
          K (V.tup [V.int IntKind.i64 m, V.bool false]) []))))))))) := by kernel_rfl

theorem rbase_vc (m : Int) (K : V → List Bk → Prop) : vcF Tryd.prog cfgN (ctOf []) (lpOf []) 45 [.int .i64 m] [] K = (
  br (ltI m 0) (
    K (V.tup [V.int IntKind.i64 0, V.bool false]) []) (
    br (ltI 83 m) (
      K (V.tup [V.int IntKind.i64 0, V.bool false]) []) (
      br (ltI 3 (m.tmod 16)) (
        K (V.tup [V.int IntKind.i64 0, V.bool false]) []) (
        br (ltI 1 ((quoI IntKind.i64 m 16).tmod 4)) (
          K (V.tup [V.int IntKind.i64 0, V.bool false]) []) (
          K (V.tup [V.int IntKind.i64 (m.tmod 16), V.bool true]) []))))) := by kernel_rfl

theorem uses_vc (m : Int) (K : V → List Bk → Prop) : vcF Tryd.prog cfgN (ctOf []) (lpOf []) 39 [.int .i64 m] [] K = (
  br (eqI m 0) (
    K (V.tup [V.int IntKind.i64 1, V.int IntKind.i64 0]) []) (
    br (eqI m 1) (
      K (V.tup [V.int IntKind.i64 0, V.int IntKind.i64 1]) []) (
      br (eqI m 2) (
        K (V.tup [V.int IntKind.i64 1, V.int IntKind.i64 1]) []) (
        K (V.tup [V.int IntKind.i64 0, V.int IntKind.i64 0]) [])))) := by kernel_rfl

theorem ruses_vc (m : Int) (K : V → List Bk → Prop) : vcF Tryd.prog cfgN (ctOf []) (lpOf []) 46 [.int .i64 m] [] K = (
  br (eqI m 0) (
    K (V.tup [V.int IntKind.i64 1, V.int IntKind.i64 0]) []) (
    br (eqI m 1) (
      K (V.tup [V.int IntKind.i64 0, V.int IntKind.i64 1]) []) (
      br (eqI m 2) (
        K (V.tup [V.int IntKind.i64 1, V.int IntKind.i64 1]) []) (
        K (V.tup [V.int IntKind.i64 0, V.int IntKind.i64 0]) [])))) := by kernel_rfl

def pr_vc_2 (next : Int) (xs : List (List V)) (I : prC → prX → prX → Nat → Prop) (K : V → List Bk → Prop) (n6 : Int) (s7 : List UInt8) (n8 : Int) (n9 : Int) (b10 : Bool) (s11 : List UInt8) (n12 : Int) (n13 : Int) (b14 : Bool) (m5 : Nat) (x4 : (prL I).X) : Prop :=
  (
                      ∃ x16 : Pipe, (([V.int IntKind.i64 n6, V.str s7, V.int IntKind.i64 n8, V.int IntKind.i64 n9, V.bool b10, V.str s11, V.int IntKind.i64 n12, V.int IntKind.i64 n13, V.bool b14] : List V) = [V.int IntKind.i64 x16.1, V.str x16.ends0.1, V.int IntKind.i64 x16.ends0.2, V.int IntKind.i64 x16.ends0.3, V.bool x16.ends0.4, V.str x16.ends1.1, V.int IntKind.i64 x16.ends1.2, V.int IntKind.i64 x16.ends1.3, V.bool x16.ends1.4]) ∧ (
                      br (finB x16) (
                        K (V.bool false) []) (
                        ∃ x17 : End, (([V.str s7, V.int IntKind.i64 n8, V.int IntKind.i64 n9, V.bool b10] : List V) = [V.str x17.1, V.int IntKind.i64 x17.2, V.int IntKind.i64 x17.3, V.bool x17.4]) ∧ (
                        br (notB (soundB x17)) (
                          K (V.bool false) []) (
                          ∃ x18 : End, (([V.str s11, V.int IntKind.i64 n12, V.int IntKind.i64 n13, V.bool b14] : List V) = [V.str x18.1, V.int IntKind.i64 x18.2, V.int IntKind.i64 x18.3, V.bool x18.4]) ∧ (
                          br (notB (soundB x18)) (
                            K (V.bool false) []) (
                            ((prC.mk next xs xs (lenL xs) : (prL I).C) = prC.mk next xs xs (lenL xs)) ∧ (
                            ∃ m'19 : Nat, (m'19 < m5) ∧ (
                            I (prC.mk next xs xs (lenL xs)) (prX.mk 0) (prX.mk (addI IntKind.i64 x4.1 1)) m'19)))))))))
def pr_vc_1 (next : Int) (xs : List (List V)) (I : prC → prX → prX → Nat → Prop) (K : V → List Bk → Prop) : Prop :=
  (
      br (ltI next 1) (
        K (V.bool false) []) (
        br (ltI 549755813888 next) (
          K (V.bool false) []) (
          br (ltI 64 (lenL xs)) (
            K (V.bool false) []) (
            (∃ m4 : Nat, (m4 < 18446744073709551616) ∧ (
            I (prC.mk next xs xs (lenL xs)) (prX.mk 0) (prX.mk 0) m4)) ∧ (
            ∀ x4 : (prL I).X, ∀ m5 : Nat, (I (prC.mk next xs xs (lenL xs)) (prX.mk 0) x4 m5) → (
            br (ltI x4.1 (lenL xs)) (
              need (andB (leI 0 x4.1) (ltI x4.1 (lenL xs))) (
              need (okRow xs x4.1.toNat 9) (
              ∃ n6 : Int, ∃ s7 : List UInt8, ∃ n8 : Int, ∃ n9 : Int, ∃ b10 : Bool, ∃ s11 : List UInt8, ∃ n12 : Int, ∃ n13 : Int, ∃ b14 : Bool, ((sub (rowAt xs x4.1) 0 9 : Option (List V)) = some [V.int IntKind.i64 n6, V.str s7, V.int IntKind.i64 n8, V.int IntKind.i64 n9, V.bool b10, V.str s11, V.int IntKind.i64 n12, V.int IntKind.i64 n13, V.bool b14]) ∧ (
              br (ltI n6 1) (
                K (V.bool false) []) (
                br (leI next n6) (
                  K (V.bool false) []) (
                  br (ltI 0 x4.1) (
                    need (andB (leI 0 (subI IntKind.i64 x4.1 1)) (ltI (subI IntKind.i64 x4.1 1) (lenL xs))) (
                    need (okRow xs (subI IntKind.i64 x4.1 1).toNat 9) (
                    ∃ n15 : Int, ((sub (rowAt xs (subI IntKind.i64 x4.1 1)) 0 1 : Option (List V)) = some [V.int IntKind.i64 n15]) ∧ (
                    br (leI n6 n15) (
                      K (V.bool false) []) (pr_vc_2 next xs I K n6 s7 n8 n9 b10 s11 n12 n13 b14 m5 x4))))) (pr_vc_2 next xs I K n6 s7 n8 n9 b10 s11 n12 n13 b14 m5 x4))))))) (
              K (V.bool true) [])))))))
theorem pr_vc (next : Int) (xs : List (List V)) (I : prC → prX → prX → Nat → Prop) (K : V → List Bk → Prop) : vcF Tryd.prog cfgN (ctOf [(29, finCon), (30, soundCon)]) (lpOf [(6, prL I)]) 11 [.agg [.int .i64 next, .lst xs]] [] K = (
  br (eqI next 0) (
    br (eqI (lenL xs) 0) (
      K (V.bool true) []) (pr_vc_1 next xs I K)) (pr_vc_1 next xs I K)) := by kernel_rfl

def rr_vc_1 (next : Int) (xs : List (List V)) (I : rrC → rrX → rrX → Nat → Prop) (K : V → List Bk → Prop) (s8 : List UInt8) (n9 : Int) (n10 : Int) (b11 : Bool) (s12 : List UInt8) (n13 : Int) (n14 : Int) (b15 : Bool) (n7 : Int) (l4 : List Pipe) (m6 : Nat) (x5 : (rrL I).X) : Prop :=
  (
                  ∃ x17 : End, (([V.str s8, V.int IntKind.i64 n9, V.int IntKind.i64 n10, V.bool b11] : List V) = [V.str x17.1, V.int IntKind.i64 x17.2, V.int IntKind.i64 x17.3, V.bool x17.4]) ∧ (
                  br (notB (soundB x17)) (
                    K (V.bool false) []) (
                    ∃ x18 : End, (([V.str s12, V.int IntKind.i64 n13, V.int IntKind.i64 n14, V.bool b15] : List V) = [V.str x18.1, V.int IntKind.i64 x18.2, V.int IntKind.i64 x18.3, V.bool x18.4]) ∧ (
                    br (notB (soundB x18)) (
                      K (V.bool false) []) (
                      ∃ x19 : Pipe, (([V.int IntKind.i64 n7, V.str s8, V.int IntKind.i64 n9, V.int IntKind.i64 n10, V.bool b11, V.str s12, V.int IntKind.i64 n13, V.int IntKind.i64 n14, V.bool b15] : List V) = [V.int IntKind.i64 x19.1, V.str x19.ends0.1, V.int IntKind.i64 x19.ends0.2, V.int IntKind.i64 x19.ends0.3, V.bool x19.ends0.4, V.str x19.ends1.1, V.int IntKind.i64 x19.ends1.2, V.int IntKind.i64 x19.ends1.3, V.bool x19.ends1.4]) ∧ (
                      br (finR x19) (
                        K (V.bool false) []) (
                        ((rrC.mk next xs (nextF next l4) : (rrL I).C) = rrC.mk next xs (nextF next l4)) ∧ (
                        ∃ m'20 : Nat, (m'20 < m6) ∧ (
                        I (rrC.mk next xs (nextF next l4)) (rrX.mk 0) (rrX.mk (addI IntKind.i64 x5.1 1)) m'20)))))))))
theorem rr_vc (next : Int) (xs : List (List V)) (I : rrC → rrX → rrX → Nat → Prop) (K : V → List Bk → Prop) : vcF Tryd.prog cfgN (ctOf [(28, finRCon), (27, soundCon), (26, nextCon)]) (lpOf [(5, rrL I)]) 10 [.agg [.int .i64 next, .lst xs]] [] K = (
  ∃ l4 : List Pipe, ((xs : List (List V)) = pipeV l4) ∧ (
  br (ltI 64 (lenL xs)) (
    K (V.bool false) []) (
    br (ltI (nextF next l4) 1) (
      K (V.bool false) []) (
      br (ltI 549755813888 (nextF next l4)) (
        K (V.bool false) []) (
        (∃ m5 : Nat, (m5 < 18446744073709551616) ∧ (
        I (rrC.mk next xs (nextF next l4)) (rrX.mk 0) (rrX.mk 0) m5)) ∧ (
        ∀ x5 : (rrL I).X, ∀ m6 : Nat, (I (rrC.mk next xs (nextF next l4)) (rrX.mk 0) x5 m6) → (
        br (ltI x5.1 (lenL xs)) (
          need (andB (leI 0 x5.1) (ltI x5.1 (lenL xs))) (
          need (okRow xs x5.1.toNat 9) (
          ∃ n7 : Int, ∃ s8 : List UInt8, ∃ n9 : Int, ∃ n10 : Int, ∃ b11 : Bool, ∃ s12 : List UInt8, ∃ n13 : Int, ∃ n14 : Int, ∃ b15 : Bool, ((sub (rowAt xs x5.1) 0 9 : Option (List V)) = some [V.int IntKind.i64 n7, V.str s8, V.int IntKind.i64 n9, V.int IntKind.i64 n10, V.bool b11, V.str s12, V.int IntKind.i64 n13, V.int IntKind.i64 n14, V.bool b15]) ∧ (
          br (ltI n7 1) (
            K (V.bool false) []) (
            br (leI (nextF next l4) n7) (
              K (V.bool false) []) (
              br (ltI 0 x5.1) (
                need (andB (leI 0 (subI IntKind.i64 x5.1 1)) (ltI (subI IntKind.i64 x5.1 1) (lenL xs))) (
                need (okRow xs (subI IntKind.i64 x5.1 1).toNat 9) (
                ∃ n16 : Int, ((sub (rowAt xs (subI IntKind.i64 x5.1 1)) 0 1 : Option (List V)) = some [V.int IntKind.i64 n16]) ∧ (
                br (leI n7 n16) (
                  K (V.bool false) []) (rr_vc_1 next xs I K s8 n9 n10 b11 s12 n13 n14 b15 n7 l4 m6 x5))))) (rr_vc_1 next xs I K s8 n9 n10 b11 s12 n13 n14 b15 n7 l4 m6 x5))))))) (
          K (V.bool true) [])))))))) := by kernel_rfl

end Go.Proofs.YtjplfafojmkpbaaDoor
namespace Go.Proofs.YtjplfafojmkpbaaDoor
open Go.RowKit
set_option maxRecDepth 100000
set_option linter.unusedVariables false
set_option linter.unusedSimpArgs false
theorem fin_con {n : Nat} (hn : 1 ≤ n) : ConOk (evalF Tryd.prog cfgN n) 29 finCon := by
  intro vs bs K h
  unfold finCon at h
  split at h
  · obtain ⟨x, rfl, hK⟩ := h
    refine run_of (lp := lpOf [(2, unrL 3)]) hn (fun k _ => noCt_ok _) ?_
    rw [fin_vc]
    have e : ∀ {b'}, b' = finB x → K (.bool b') [] := fun q => by rw [q]; exact hK
    simp only [br_iff]
    refine ⟨fun g => e ?_, fun g => ⟨fun g => e ?_, fun g => ⟨fun g => e ?_, fun g => ⟨fun g => e ?_, fun g => ⟨fun g => e ?_, fun g => ⟨fun g => e ?_, fun g => e ?_⟩⟩⟩⟩⟩⟩ <;>
      simp only [br_iff, need_iff, andB_t, andB_f, orB_t, orB_f, notB_t, notB_f, leI_t, leI_f, ltI_t, ltI_f, eqI_t, eqI_f, leN_t, leN_f, eqN_t, eqN_f, eqS_t, eqS_f, eqB_t, eqB_f, catOk_t, leC_t] at * <;> simp [finB, *] <;> omega
  · exact h.elim
theorem finr_con {n : Nat} (hn : 1 ≤ n) : ConOk (evalF Tryd.prog cfgN n) 28 finRCon := by
  intro vs bs K h
  unfold finRCon at h
  split at h
  · obtain ⟨x, rfl, hK⟩ := h
    refine run_of (lp := lpOf []) hn (fun k _ => noCt_ok _) ?_
    rw [finr_vc]
    have e : ∀ {b'}, b' = finR x → K (.bool b') [] := fun q => by rw [q]; exact hK
    simp only [br_iff]
    refine ⟨fun g => ⟨fun g => ⟨fun g => ⟨fun g => ⟨fun g => e ?_, fun g => e ?_⟩, fun g => e ?_⟩, fun g => e ?_⟩, fun g => e ?_⟩, fun g => e ?_⟩ <;>
      (try simp only [br_iff, need_iff, andB_t, andB_f, orB_t, orB_f, notB_t, notB_f, leI_t, leI_f, ltI_t, ltI_f, eqI_t, eqI_f, leN_t, leN_f, eqN_t, eqN_f, eqS_t, eqS_f, eqB_t, eqB_f, catOk_t, leC_t] at *) <;> simp [finR, eqI, *]
  · exact h.elim
theorem snd_con {n : Nat} (hn : 1 ≤ n) : ConOk (evalF Tryd.prog cfgN n) 30 soundCon := by
  intro vs bs K h
  unfold soundCon at h
  split at h
  · obtain ⟨x, rfl, hK⟩ := h
    refine run_of (lp := lpOf []) hn (fun k _ => noCt_ok _) ?_
    rw [snd_vc]
    have e : ∀ {b'}, b' = soundB x → K (.bool b') [] := fun q => by rw [q]; exact hK
    simp only [br_iff]
    refine ⟨fun g => e ?_, fun g => ⟨fun g => e ?_, fun g => ⟨fun g => e ?_, fun g => ⟨fun g => e ?_, fun g => ⟨fun g => e ?_, fun g => e ?_⟩⟩⟩⟩⟩ <;>
      simp only [br_iff, need_iff, andB_t, andB_f, orB_t, orB_f, notB_t, notB_f, leI_t, leI_f, ltI_t, ltI_f, eqI_t, eqI_f, leN_t, leN_f, eqN_t, eqN_f, eqS_t, eqS_f, eqB_t, eqB_f, catOk_t, leC_t, lenS, minI, maxI] at * <;> rw [Bool.eq_iff_iff] <;> simp [soundB, eqI, *] <;> omega
  · exact h.elim
theorem end_con {n : Nat} (hn : 1 ≤ n) : ConOk (evalF Tryd.prog cfgN n) 27 soundCon := by
  intro vs bs K h
  unfold soundCon at h
  split at h
  · obtain ⟨x, rfl, hK⟩ := h
    refine run_of (lp := lpOf []) hn (fun k _ => noCt_ok _) ?_
    rw [end_vc]
    have e : ∀ {b'}, b' = soundB x → K (.bool b') [] := fun q => by rw [q]; exact hK
    simp only [br_iff]
    refine ⟨fun g => e ?_, fun g => ⟨fun g => e ?_, fun g => ⟨fun g => e ?_, fun g => ⟨fun g => e ?_, fun g => ⟨fun g => e ?_, fun g => ⟨fun g => e ?_, fun g => ⟨fun g => e ?_, fun g => e ?_⟩⟩⟩⟩⟩⟩⟩ <;>
      simp only [br_iff, need_iff, andB_t, andB_f, orB_t, orB_f, notB_t, notB_f, leI_t, leI_f, ltI_t, ltI_f, eqI_t, eqI_f, leN_t, leN_f, eqN_t, eqN_f, eqS_t, eqS_f, eqB_t, eqB_f, catOk_t, leC_t, lenS, minI, maxI] at * <;> rw [Bool.eq_iff_iff] <;> simp [soundB, eqI, *] <;> omega
  · exact h.elim
theorem next_con {n : Nat} (hn : 1 ≤ n) : ConOk (evalF Tryd.prog cfgN n) 26 nextCon := by
  intro vs bs K h
  unfold nextCon at h
  split at h
  · obtain ⟨l, rfl, hK⟩ := h
    refine run_of (lp := lpOf []) hn (fun k _ => noCt_ok _) ?_
    rw [next_vc]
    rename_i a b c
    have e : ∀ {b'}, b' = nextF c l → K (.int .i64 b') [] := fun q => by rw [q]; exact hK
    simp only [br_iff, pipeV_lenL]
    refine ⟨fun g => ⟨fun g => e ?_, fun g => e ?_⟩, fun g => e ?_⟩ <;> simp only [br_iff, need_iff, andB_t, andB_f, orB_t, orB_f, notB_t, notB_f, leI_t, leI_f, ltI_t, ltI_f, eqI_t, eqI_f, leN_t, leN_f, eqN_t, eqN_f, eqS_t, eqS_f, eqB_t, eqB_f, catOk_t, leC_t] at * <;> cases l <;> simp_all [nextF] <;> omega
  · exact h.elim
def modeOk (m : Int) : Bool := decide (0 ≤ m ∧ m ≤ 83 ∧ m % 16 ≤ 3 ∧ m / 16 % 4 ≤ 1)
def baseCon : Con := fun vs bs K => match vs, bs with
  | [.int .i64 m], [] => m ≤ 9223372036854775807 ∧ br (modeOk m) (K (.tup [.int .i64 (modI m 16), .bool true]) []) (∀ b, K (.tup [.int .i64 b, .bool false]) [])
  | _, _ => False
theorem base_con {n : Nat} (hn : 1 ≤ n) : ConOk (evalF Tryd.prog cfgN n) 38 baseCon := by
  intro vs bs K h
  unfold baseCon at h
  split at h
  · rename_i m
    obtain ⟨hm, hK⟩ := h
    refine run_of (lp := lpOf [(5, unrL 3)]) hn (fun k _ => noCt_ok _) ?_
    rw [base_vc]
    rw [br_iff] at hK
    obtain ⟨k1, k2⟩ := hK
    have e : ∀ {b : Int} {c : Bool}, (c = true → modeOk m = true ∧ b = m % 16) → (c = false → modeOk m = false) → K (.tup [.int .i64 b, .bool c]) [] := by
      intro b c h1 h2
      cases c with
      | true => obtain ⟨h, rfl⟩ := h1 rfl; exact k1 h
      | false => exact k2 (h2 rfl) b
    rw [br_iff]
    refine ⟨fun g => e (by simp) (fun _ => ?_), fun g => ?_⟩
    · simp only [br_iff, need_iff, andB_t, andB_f, orB_t, orB_f, notB_t, notB_f, leI_t, leI_f, ltI_t, ltI_f, eqI_t, eqI_f, leN_t, leN_f, eqN_t, eqN_f, eqS_t, eqS_f, eqB_t, eqB_f, catOk_t, leC_t] at g; simp [modeOk]; omega
    have h0 : 0 ≤ m := by simp only [br_iff, need_iff, andB_t, andB_f, orB_t, orB_f, notB_t, notB_f, leI_t, leI_f, ltI_t, ltI_f, eqI_t, eqI_f, leN_t, leN_f, eqN_t, eqN_f, eqS_t, eqS_f, eqB_t, eqB_f, catOk_t, leC_t] at g; omega
    refine ⟨16, rfl, need_iff.2 ⟨rfl, ?_⟩⟩
    simp only [br_iff, need_iff]
    have e1 : subI .i64 m 16 = m - 16 := subI_i64 (by omega) (by omega)
    have e2 : subI .i64 m 64 = m - 64 := subI_i64 (by omega) (by omega)
    have e3 : subI .i64 (m - 16) 64 = m - 16 - 64 := subI_i64 (by omega) (by omega)
    refine ⟨fun g1 => ⟨64, rfl, rfl, ?_⟩, fun g1 => ⟨64, rfl, rfl, ?_⟩⟩
    all_goals
      rw [quoI_i64 h0 hm (by omega), tmod_pos (Int.ediv_nonneg h0 (by omega))] at g1
      rw [quoI_i64 h0 hm (by omega), tmod_pos (Int.ediv_nonneg h0 (by omega))]
      simp only [e1, e2, e3, br_iff, need_iff, andB_t, andB_f, orB_t, orB_f, notB_t, notB_f, leI_t, leI_f, ltI_t, ltI_f, eqI_t, eqI_f, leN_t, leN_f, eqN_t, eqN_f, eqS_t, eqS_f, eqB_t, eqB_f, catOk_t, leC_t] at g1 ⊢
    · refine ⟨fun g2 => ⟨fun g3 => e ?_ ?_, fun g3 => e ?_ ?_⟩, fun g2 => ⟨fun g3 => e ?_ ?_, fun g3 => e ?_ ?_⟩⟩ <;> simp [modeOk, leI, modI] <;> omega
    · refine ⟨fun g2 => ⟨fun g3 => e ?_ ?_, fun g3 => e ?_ ?_⟩, fun g2 => ⟨fun g3 => e ?_ ?_, fun g3 => e ?_ ?_⟩⟩ <;> simp [modeOk, leI, modI] <;> omega
  · exact h.elim
theorem rbase_con {n : Nat} (hn : 1 ≤ n) : ConOk (evalF Tryd.prog cfgN n) 45 baseCon := by
  intro vs bs K h
  unfold baseCon at h
  split at h
  · rename_i m
    obtain ⟨hm, hK⟩ := h
    refine run_of (lp := lpOf []) hn (fun k _ => noCt_ok _) ?_
    rw [rbase_vc]
    rw [br_iff] at hK
    obtain ⟨k1, k2⟩ := hK
    rw [br_iff]
    refine ⟨fun g => k2 ?_ _, fun g => ?_⟩
    · simp only [br_iff, need_iff, andB_t, andB_f, orB_t, orB_f, notB_t, notB_f, leI_t, leI_f, ltI_t, ltI_f, eqI_t, eqI_f, leN_t, leN_f, eqN_t, eqN_f, eqS_t, eqS_f, eqB_t, eqB_f, catOk_t, leC_t] at g; simp [modeOk]; omega
    have h0 : 0 ≤ m := by simp only [br_iff, need_iff, andB_t, andB_f, orB_t, orB_f, notB_t, notB_f, leI_t, leI_f, ltI_t, ltI_f, eqI_t, eqI_f, leN_t, leN_f, eqN_t, eqN_f, eqS_t, eqS_f, eqB_t, eqB_f, catOk_t, leC_t] at g; omega
    rw [quoI_i64 h0 hm (by omega), tmod_pos (Int.ediv_nonneg h0 (by omega)), tmod_pos h0]
    simp only [br_iff]
    refine ⟨fun g => k2 ?_ _, fun g => ⟨fun g => k2 ?_ _, fun g => ⟨fun g => k2 ?_ _, fun g => k1 ?_⟩⟩⟩ <;> simp only [br_iff, need_iff, andB_t, andB_f, orB_t, orB_f, notB_t, notB_f, leI_t, leI_f, ltI_t, ltI_f, eqI_t, eqI_f, leN_t, leN_f, eqN_t, eqN_f, eqS_t, eqS_f, eqB_t, eqB_f, catOk_t, leC_t] at * <;> simp [modeOk] <;> omega
  · exact h.elim
def rdF (m : Int) : Int := if m = 0 ∨ m = 2 then 1 else 0
def wrF (m : Int) : Int := if m = 1 ∨ m = 2 then 1 else 0
def usesCon : Con := fun vs bs K => match vs, bs with
  | [.int .i64 m], [] => K (.tup [.int .i64 (rdF m), .int .i64 (wrF m)]) []
  | _, _ => False
theorem uses_con {n : Nat} (hn : 1 ≤ n) : ConOk (evalF Tryd.prog cfgN n) 39 usesCon := by
  intro vs bs K h
  unfold usesCon at h
  split at h
  · rename_i m
    refine run_of (lp := lpOf []) hn (fun k _ => noCt_ok _) ?_
    rw [uses_vc]
    have e : ∀ {a b : Int}, a = rdF m → b = wrF m → K (.tup [.int .i64 a, .int .i64 b]) [] := fun q r => by rw [q, r]; exact h
    simp only [br_iff]
    refine ⟨fun g => e ?_ ?_, fun g => ⟨fun g => e ?_ ?_, fun g => ⟨fun g => e ?_ ?_, fun g => e ?_ ?_⟩⟩⟩ <;> simp only [br_iff, need_iff, andB_t, andB_f, orB_t, orB_f, notB_t, notB_f, leI_t, leI_f, ltI_t, ltI_f, eqI_t, eqI_f, leN_t, leN_f, eqN_t, eqN_f, eqS_t, eqS_f, eqB_t, eqB_f, catOk_t, leC_t] at * <;> simp [rdF, wrF] <;> omega
  · exact h.elim
theorem ruses_con {n : Nat} (hn : 1 ≤ n) : ConOk (evalF Tryd.prog cfgN n) 46 usesCon := by
  intro vs bs K h
  unfold usesCon at h
  split at h
  · rename_i m
    refine run_of (lp := lpOf []) hn (fun k _ => noCt_ok _) ?_
    rw [ruses_vc]
    have e : ∀ {a b : Int}, a = rdF m → b = wrF m → K (.tup [.int .i64 a, .int .i64 b]) [] := fun q r => by rw [q, r]; exact h
    simp only [br_iff]
    refine ⟨fun g => e ?_ ?_, fun g => ⟨fun g => e ?_ ?_, fun g => ⟨fun g => e ?_ ?_, fun g => e ?_ ?_⟩⟩⟩ <;> simp only [br_iff, need_iff, andB_t, andB_f, orB_t, orB_f, notB_t, notB_f, leI_t, leI_f, ltI_t, ltI_f, eqI_t, eqI_f, leN_t, leN_f, eqN_t, eqN_f, eqS_t, eqS_f, eqB_t, eqB_f, catOk_t, leC_t] at * <;> simp [rdF, wrF] <;> omega
  · exact h.elim
end Go.Proofs.YtjplfafojmkpbaaDoor
namespace Go.Proofs.YtjplfafojmkpbaaDoor
open Go.RowKit
set_option maxRecDepth 100000
set_option linter.unusedVariables false
set_option linter.unusedSimpArgs false
def goodP (n : Int) (x : Pipe) : Prop := (1 ≤ x.id ∧ x.id < n) ∧ finB x = false ∧ soundB x.ends0 = true ∧ soundB x.ends1 = true
def okAt (n : Int) (l : List Pipe) (j : Nat) : Prop := ∃ x, l[j]? = some x ∧ goodP n x ∧ ∀ k y, j = k + 1 → l[k]? = some y → y.id < x.id
noncomputable def rightP (n : Int) (l : List Pipe) : Bool := @decide (l.length ≤ 64 ∧ 1 ≤ nextF n l ∧ nextF n l ≤ 549755813888 ∧ ∀ j, j < l.length → okAt n l j) (Classical.propDecidable _)
theorem rightP_iff {n : Int} {l : List Pipe} : rightP n l = true ↔ (l.length ≤ 64 ∧ 1 ≤ nextF n l ∧ nextF n l ≤ 549755813888 ∧ ∀ j, j < l.length → okAt n l j) := by simp [rightP]
theorem rightP_not {n : Int} {l : List Pipe} (h : ¬ (l.length ≤ 64 ∧ 1 ≤ nextF n l ∧ nextF n l ≤ 549755813888 ∧ ∀ j, j < l.length → okAt n l j)) : rightP n l = false := by rw [← Bool.not_eq_true, rightP_iff]; exact h
theorem finR_eq {x : Pipe} (h0 : soundB x.ends0 = true) (h1 : soundB x.ends1 = true) : finR x = finB x := by
  simp only [soundB, decide_eq_true_eq] at h0 h1
  rw [Bool.eq_iff_iff]; simp only [finR, finB, decide_eq_true_eq]
  constructor <;> rintro ⟨a, b, c, d, e, f⟩ <;> refine ⟨a, ?_, ?_, d, ?_, ?_⟩ <;> omega
def rightCon : Con := fun vs bs K => match vs, bs with
  | [.agg [.int .i64 n, .lst xs]], [] => ∃ l, xs = pipeV l ∧ l.length ≤ 100000 ∧ K (.bool (rightP n l)) []
  | _, _ => False
def rI (n : Int) (l : List Pipe) (i : Int) (m : Nat) : Prop := ∃ k : Nat, i = (k : Int) ∧ k + m = l.length ∧ ∀ j, j < k → okAt n l j
theorem okAt_next {n : Int} {l : List Pipe} {k : Nat} (hp : ∀ j, j < k → okAt n l j) (h : okAt n l k) : ∀ j, j < k + 1 → okAt n l j := fun j hj => by
  rcases Nat.lt_or_ge j k with h1 | h1
  · exact hp j h1
  · obtain rfl : j = k := by omega
    exact h
theorem pr_con {n : Nat} (hn : 2 ≤ n) : ConOk (evalF Tryd.prog cfgN n) 11 rightCon := by
  intro vs bs K h
  unfold rightCon at h
  split at h
  · rename_i nx xs
    obtain ⟨l, rfl, hsz, hK⟩ := h
    refine run_of (lp := lpOf [(6, prL fun _ _ x m => rI nx l x.i m)]) (ct := ctOf [(29, finCon), (30, soundCon)]) (by omega)
      (fun k hk => ctOf_ok (ctOf_cons (fin_con (by omega)) (ctOf_cons (snd_con (by omega)) (ctOf_nil _)))) ?_
    rw [pr_vc]
    simp only [pipeV_lenL]
    have e : ∀ {b' : Bool}, b' = rightP nx l → K (.bool b') [] := fun q => by rw [q]; exact hK
    have main : (nx = 0 → l ≠ []) → pr_vc_1 nx (pipeV l) (fun _ _ x m => rI nx l x.i m) K := by
      intro hne
      have hnx : nextF nx l = nx := by
        unfold nextF; rw [if_neg fun h => hne h.1 h.2]
      have no : ∀ {j}, j < l.length → ¬ okAt nx l j → K (.bool false) [] := fun hj h => e (rightP_not fun q => h (q.2.2.2 _ hj)).symm
      unfold pr_vc_1
      simp only [pipeV_lenL]
      rw [br_iff]; refine ⟨fun g => e (rightP_not fun q => ?_).symm, fun g1 => ?_⟩
      · simp only [br_iff, need_iff, andB_t, andB_f, orB_t, orB_f, notB_t, notB_f, leI_t, leI_f, ltI_t, ltI_f, eqI_t, eqI_f, leN_t, leN_f, eqN_t, eqN_f, eqS_t, eqS_f, eqB_t, eqB_f, catOk_t, leC_t] at g; omega
      rw [br_iff]; refine ⟨fun g => e (rightP_not fun q => ?_).symm, fun g2 => ?_⟩
      · simp only [br_iff, need_iff, andB_t, andB_f, orB_t, orB_f, notB_t, notB_f, leI_t, leI_f, ltI_t, ltI_f, eqI_t, eqI_f, leN_t, leN_f, eqN_t, eqN_f, eqS_t, eqS_f, eqB_t, eqB_f, catOk_t, leC_t] at g; omega
      rw [br_iff]; refine ⟨fun g => e (rightP_not fun q => ?_).symm, fun g3 => ?_⟩
      · simp only [br_iff, need_iff, andB_t, andB_f, orB_t, orB_f, notB_t, notB_f, leI_t, leI_f, ltI_t, ltI_f, eqI_t, eqI_f, leN_t, leN_f, eqN_t, eqN_f, eqS_t, eqS_f, eqB_t, eqB_f, catOk_t, leC_t] at g; omega
      simp only [br_iff, need_iff, andB_t, andB_f, orB_t, orB_f, notB_t, notB_f, leI_t, leI_f, ltI_t, ltI_f, eqI_t, eqI_f, leN_t, leN_f, eqN_t, eqN_f, eqS_t, eqS_f, eqB_t, eqB_f, catOk_t, leC_t] at g1 g2 g3
      refine ⟨⟨l.length, by omega, 0, rfl, by omega, fun j hj => by omega⟩, ?_⟩
      rintro ⟨i⟩ m ⟨k, rfl, hk, hp⟩
      dsimp only
      rw [br_iff]
      refine ⟨fun hlt => ?_, fun hge => ?_⟩
      · have hlt : k < l.length := by simp only [br_iff, need_iff, andB_t, andB_f, orB_t, orB_f, notB_t, notB_f, leI_t, leI_f, ltI_t, ltI_f, eqI_t, eqI_f, leN_t, leN_f, eqN_t, eqN_f, eqS_t, eqS_f, eqB_t, eqB_f, catOk_t, leC_t] at hlt; omega
        have gf : l[k]? = some l[k] := List.getElem?_eq_getElem hlt
        generalize l[k] = f at gf
        have rf := pipeV_row gf
        have kf : okRow (pipeV l) (Int.toNat (k : Int)) 9 = true := by simpa using pipeV_ok (l := l) (i := k) hlt
        have nf : andB (leI 0 (k : Int)) (ltI (k : Int) (l.length : Int)) = true := by simp only [br_iff, need_iff, andB_t, andB_f, orB_t, orB_f, notB_t, notB_f, leI_t, leI_f, ltI_t, ltI_f, eqI_t, eqI_f, leN_t, leN_f, eqN_t, eqN_f, eqS_t, eqS_f, eqB_t, eqB_f, catOk_t, leC_t]; omega
        have get : okAt nx l k → goodP nx f ∧ ∀ j y, k = j + 1 → l[j]? = some y → y.id < f.id := fun ⟨x, h1, h2⟩ => by
          obtain rfl := Option.some.inj (gf.symm.trans h1)
          exact h2
        have nxt : okAt nx l k → ∃ m', m' < m ∧ rI nx l (addI .i64 (k : Int) 1) m' := fun h => ⟨m - 1, by omega, k + 1, by rw [addI_i64 (by omega) (by omega)]; omega, by omega, okAt_next hp h⟩
        rw [need_iff, need_iff]
        refine ⟨nf, kf, ?_⟩
        try rw [rf]
        repeat apply Exists.intro
        refine ⟨rfl, ?_⟩
        rw [br_iff]; refine ⟨fun g => no hlt fun q => ?_, fun g4 => ?_⟩
        · simp only [br_iff, need_iff, andB_t, andB_f, orB_t, orB_f, notB_t, notB_f, leI_t, leI_f, ltI_t, ltI_f, eqI_t, eqI_f, leN_t, leN_f, eqN_t, eqN_f, eqS_t, eqS_f, eqB_t, eqB_f, catOk_t, leC_t] at g; have := (get q).1.1; omega
        rw [br_iff]; refine ⟨fun g => no hlt fun q => ?_, fun g5 => ?_⟩
        · simp only [br_iff, need_iff, andB_t, andB_f, orB_t, orB_f, notB_t, notB_f, leI_t, leI_f, ltI_t, ltI_f, eqI_t, eqI_f, leN_t, leN_f, eqN_t, eqN_f, eqS_t, eqS_f, eqB_t, eqB_f, catOk_t, leC_t] at g; have := (get q).1.1; omega
        simp only [br_iff, need_iff, andB_t, andB_f, orB_t, orB_f, notB_t, notB_f, leI_t, leI_f, ltI_t, ltI_f, eqI_t, eqI_f, leN_t, leN_f, eqN_t, eqN_f, eqS_t, eqS_f, eqB_t, eqB_f, catOk_t, leC_t] at g4 g5
        have tail : (∀ j y, k = j + 1 → l[j]? = some y → y.id < f.id) → pr_vc_2 nx (pipeV l) (fun _ _ x m => rI nx l x.i m) K f.id f.ends0.data f.ends0.readers f.ends0.writers f.ends0.ever f.ends1.data f.ends1.readers f.ends1.writers f.ends1.ever m ⟨(k : Int)⟩ := by
          intro hprev
          unfold pr_vc_2
          refine ⟨f, rfl, ?_⟩
          rw [br_iff]; refine ⟨fun g => no hlt fun q => ?_, fun g6 => ⟨f.ends0, rfl, ?_⟩⟩
          · have := (get q).1.2.1; rw [g] at this; cases this
          rw [br_iff]; refine ⟨fun g => no hlt fun q => ?_, fun g7 => ⟨f.ends1, rfl, ?_⟩⟩
          · simp only [br_iff, need_iff, andB_t, andB_f, orB_t, orB_f, notB_t, notB_f, leI_t, leI_f, ltI_t, ltI_f, eqI_t, eqI_f, leN_t, leN_f, eqN_t, eqN_f, eqS_t, eqS_f, eqB_t, eqB_f, catOk_t, leC_t] at g; have := (get q).1.2.2.1; rw [g] at this; cases this
          rw [br_iff]; refine ⟨fun g => no hlt fun q => ?_, fun g8 => ⟨rfl, nxt ⟨f, gf, ⟨⟨by omega, by omega⟩, g6, ?_, ?_⟩, hprev⟩⟩⟩
          · simp only [br_iff, need_iff, andB_t, andB_f, orB_t, orB_f, notB_t, notB_f, leI_t, leI_f, ltI_t, ltI_f, eqI_t, eqI_f, leN_t, leN_f, eqN_t, eqN_f, eqS_t, eqS_f, eqB_t, eqB_f, catOk_t, leC_t] at g; have := (get q).1.2.2.2; rw [g] at this; cases this
          · simp only [br_iff, need_iff, andB_t, andB_f, orB_t, orB_f, notB_t, notB_f, leI_t, leI_f, ltI_t, ltI_f, eqI_t, eqI_f, leN_t, leN_f, eqN_t, eqN_f, eqS_t, eqS_f, eqB_t, eqB_f, catOk_t, leC_t] at g7; exact g7
          · simp only [br_iff, need_iff, andB_t, andB_f, orB_t, orB_f, notB_t, notB_f, leI_t, leI_f, ltI_t, ltI_f, eqI_t, eqI_f, leN_t, leN_f, eqN_t, eqN_f, eqS_t, eqS_f, eqB_t, eqB_f, catOk_t, leC_t] at g8; exact g8
        rw [br_iff]; refine ⟨fun g6 => ?_, fun g6 => tail fun j y hj _ => ?_⟩
        · have g6 : 0 < k := by simp only [br_iff, need_iff, andB_t, andB_f, orB_t, orB_f, notB_t, notB_f, leI_t, leI_f, ltI_t, ltI_f, eqI_t, eqI_f, leN_t, leN_f, eqN_t, eqN_f, eqS_t, eqS_f, eqB_t, eqB_f, catOk_t, leC_t] at g6; omega
          obtain ⟨j, rfl⟩ : ∃ j, k = j + 1 := ⟨k - 1, by omega⟩
          have e1 : subI .i64 ((j + 1 : Nat) : Int) 1 = (j : Int) := by rw [subI_i64 (by omega) (by omega)]; omega
          have hj : j < l.length := by omega
          have gg : l[j]? = some l[j] := List.getElem?_eq_getElem hj
          generalize l[j] = g at gg
          have rg := pipeV_row gg
          have kg : okRow (pipeV l) (Int.toNat (j : Int)) 9 = true := by simpa using pipeV_ok (l := l) (i := j) hj
          have ng : andB (leI 0 (j : Int)) (ltI (j : Int) (l.length : Int)) = true := by simp only [br_iff, need_iff, andB_t, andB_f, orB_t, orB_f, notB_t, notB_f, leI_t, leI_f, ltI_t, ltI_f, eqI_t, eqI_f, leN_t, leN_f, eqN_t, eqN_f, eqS_t, eqS_f, eqB_t, eqB_f, catOk_t, leC_t]; omega
          rw [e1]
          rw [need_iff, need_iff]
          refine ⟨ng, kg, ?_⟩
          try rw [rg]
          repeat apply Exists.intro
          refine ⟨rfl, ?_⟩
          rw [br_iff]; refine ⟨fun q => no hlt fun q2 => ?_, fun q => tail fun j' y hj' hy => ?_⟩
          · have := (get q2).2 j g rfl gg; simp only [br_iff, need_iff, andB_t, andB_f, orB_t, orB_f, notB_t, notB_f, leI_t, leI_f, ltI_t, ltI_f, eqI_t, eqI_f, leN_t, leN_f, eqN_t, eqN_f, eqS_t, eqS_f, eqB_t, eqB_f, catOk_t, leC_t] at q; omega
          · obtain rfl : j' = j := by omega
            obtain rfl := Option.some.inj (gg.symm.trans hy)
            simp only [br_iff, need_iff, andB_t, andB_f, orB_t, orB_f, notB_t, notB_f, leI_t, leI_f, ltI_t, ltI_f, eqI_t, eqI_f, leN_t, leN_f, eqN_t, eqN_f, eqS_t, eqS_f, eqB_t, eqB_f, catOk_t, leC_t] at q; omega
        · simp only [br_iff, need_iff, andB_t, andB_f, orB_t, orB_f, notB_t, notB_f, leI_t, leI_f, ltI_t, ltI_f, eqI_t, eqI_f, leN_t, leN_f, eqN_t, eqN_f, eqS_t, eqS_f, eqB_t, eqB_f, catOk_t, leC_t] at g6; omega
      · have : k = l.length := by simp only [br_iff, need_iff, andB_t, andB_f, orB_t, orB_f, notB_t, notB_f, leI_t, leI_f, ltI_t, ltI_f, eqI_t, eqI_f, leN_t, leN_f, eqN_t, eqN_f, eqS_t, eqS_f, eqB_t, eqB_f, catOk_t, leC_t] at hge; omega
        subst this
        exact e (rightP_iff.2 ⟨by omega, by omega, by omega, hp⟩).symm
    rw [br_iff]
    refine ⟨fun g => ?_, fun g => main ?_⟩
    · rw [br_iff]
      refine ⟨fun g2 => e ?_, fun g2 => main ?_⟩
      · simp only [br_iff, need_iff, andB_t, andB_f, orB_t, orB_f, notB_t, notB_f, leI_t, leI_f, ltI_t, ltI_f, eqI_t, eqI_f, leN_t, leN_f, eqN_t, eqN_f, eqS_t, eqS_f, eqB_t, eqB_f, catOk_t, leC_t] at g g2
        have : l = [] := List.eq_nil_of_length_eq_zero (by omega)
        subst this; subst g
        exact (rightP_iff.2 ⟨by simp, by simp [nextF], by simp [nextF], by simp⟩).symm
      · rintro _ rfl; simp only [br_iff, need_iff, andB_t, andB_f, orB_t, orB_f, notB_t, notB_f, leI_t, leI_f, ltI_t, ltI_f, eqI_t, eqI_f, leN_t, leN_f, eqN_t, eqN_f, eqS_t, eqS_f, eqB_t, eqB_f, catOk_t, leC_t] at g2; simp at g2
    · intro h; simp only [br_iff, need_iff, andB_t, andB_f, orB_t, orB_f, notB_t, notB_f, leI_t, leI_f, ltI_t, ltI_f, eqI_t, eqI_f, leN_t, leN_f, eqN_t, eqN_f, eqS_t, eqS_f, eqB_t, eqB_f, catOk_t, leC_t] at g; omega
  · exact h.elim
theorem rr_con {n : Nat} (hn : 2 ≤ n) : ConOk (evalF Tryd.prog cfgN n) 10 rightCon := by
  intro vs bs K h
  unfold rightCon at h
  split at h
  · rename_i nx xs
    obtain ⟨l, rfl, hsz, hK⟩ := h
    refine run_of (lp := lpOf [(5, rrL fun _ _ x m => rI nx l x.i m)]) (ct := ctOf [(28, finRCon), (27, soundCon), (26, nextCon)]) (by omega)
      (fun k hk => ctOf_ok (ctOf_cons (finr_con (by omega)) (ctOf_cons (end_con (by omega)) (ctOf_cons (next_con (by omega)) (ctOf_nil _))))) ?_
    rw [rr_vc]
    refine ⟨l, rfl, ?_⟩
    simp only [pipeV_lenL]
    have e : ∀ {b' : Bool}, b' = rightP nx l → K (.bool b') [] := fun q => by rw [q]; exact hK
    have no : ∀ {j}, j < l.length → ¬ okAt nx l j → K (.bool false) [] := fun hj h => e (rightP_not fun q => h (q.2.2.2 _ hj)).symm
    rw [br_iff]; refine ⟨fun g => e (rightP_not fun q => ?_).symm, fun g1 => ?_⟩
    · simp only [br_iff, need_iff, andB_t, andB_f, orB_t, orB_f, notB_t, notB_f, leI_t, leI_f, ltI_t, ltI_f, eqI_t, eqI_f, leN_t, leN_f, eqN_t, eqN_f, eqS_t, eqS_f, eqB_t, eqB_f, catOk_t, leC_t] at g; omega
    rw [br_iff]; refine ⟨fun g => e (rightP_not fun q => ?_).symm, fun g2 => ?_⟩
    · simp only [br_iff, need_iff, andB_t, andB_f, orB_t, orB_f, notB_t, notB_f, leI_t, leI_f, ltI_t, ltI_f, eqI_t, eqI_f, leN_t, leN_f, eqN_t, eqN_f, eqS_t, eqS_f, eqB_t, eqB_f, catOk_t, leC_t] at g; omega
    rw [br_iff]; refine ⟨fun g => e (rightP_not fun q => ?_).symm, fun g3 => ?_⟩
    · simp only [br_iff, need_iff, andB_t, andB_f, orB_t, orB_f, notB_t, notB_f, leI_t, leI_f, ltI_t, ltI_f, eqI_t, eqI_f, leN_t, leN_f, eqN_t, eqN_f, eqS_t, eqS_f, eqB_t, eqB_f, catOk_t, leC_t] at g; omega
    simp only [br_iff, need_iff, andB_t, andB_f, orB_t, orB_f, notB_t, notB_f, leI_t, leI_f, ltI_t, ltI_f, eqI_t, eqI_f, leN_t, leN_f, eqN_t, eqN_f, eqS_t, eqS_f, eqB_t, eqB_f, catOk_t, leC_t] at g1 g2 g3
    refine ⟨⟨l.length, by omega, 0, rfl, by omega, fun j hj => by omega⟩, ?_⟩
    rintro ⟨i⟩ m ⟨k, rfl, hk, hp⟩
    dsimp only
    rw [br_iff]
    refine ⟨fun hlt => ?_, fun hge => ?_⟩
    · have hlt : k < l.length := by simp only [br_iff, need_iff, andB_t, andB_f, orB_t, orB_f, notB_t, notB_f, leI_t, leI_f, ltI_t, ltI_f, eqI_t, eqI_f, leN_t, leN_f, eqN_t, eqN_f, eqS_t, eqS_f, eqB_t, eqB_f, catOk_t, leC_t] at hlt; omega
      have hnx : nextF nx l = nx := by
        unfold nextF; rw [if_neg]; rintro ⟨_, rfl⟩; simp at hlt
      rw [hnx] at *
      have gf : l[k]? = some l[k] := List.getElem?_eq_getElem hlt
      generalize l[k] = f at gf
      have rf := pipeV_row gf
      have kf : okRow (pipeV l) (Int.toNat (k : Int)) 9 = true := by simpa using pipeV_ok (l := l) (i := k) hlt
      have nf : andB (leI 0 (k : Int)) (ltI (k : Int) (l.length : Int)) = true := by simp only [br_iff, need_iff, andB_t, andB_f, orB_t, orB_f, notB_t, notB_f, leI_t, leI_f, ltI_t, ltI_f, eqI_t, eqI_f, leN_t, leN_f, eqN_t, eqN_f, eqS_t, eqS_f, eqB_t, eqB_f, catOk_t, leC_t]; omega
      have get : okAt nx l k → goodP nx f ∧ ∀ j y, k = j + 1 → l[j]? = some y → y.id < f.id := fun ⟨x, h1, h2⟩ => by
        obtain rfl := Option.some.inj (gf.symm.trans h1)
        exact h2
      have nxt : okAt nx l k → ∃ m', m' < m ∧ rI nx l (addI .i64 (k : Int) 1) m' := fun h => ⟨m - 1, by omega, k + 1, by rw [addI_i64 (by omega) (by omega)]; omega, by omega, okAt_next hp h⟩
      rw [need_iff, need_iff]
      refine ⟨nf, kf, ?_⟩
      try rw [rf]
      repeat apply Exists.intro
      refine ⟨rfl, ?_⟩
      rw [br_iff]; refine ⟨fun g => no hlt fun q => ?_, fun g4 => ?_⟩
      · simp only [br_iff, need_iff, andB_t, andB_f, orB_t, orB_f, notB_t, notB_f, leI_t, leI_f, ltI_t, ltI_f, eqI_t, eqI_f, leN_t, leN_f, eqN_t, eqN_f, eqS_t, eqS_f, eqB_t, eqB_f, catOk_t, leC_t] at g; have := (get q).1.1; omega
      rw [br_iff]; refine ⟨fun g => no hlt fun q => ?_, fun g5 => ?_⟩
      · simp only [br_iff, need_iff, andB_t, andB_f, orB_t, orB_f, notB_t, notB_f, leI_t, leI_f, ltI_t, ltI_f, eqI_t, eqI_f, leN_t, leN_f, eqN_t, eqN_f, eqS_t, eqS_f, eqB_t, eqB_f, catOk_t, leC_t] at g; have := (get q).1.1; omega
      simp only [br_iff, need_iff, andB_t, andB_f, orB_t, orB_f, notB_t, notB_f, leI_t, leI_f, ltI_t, ltI_f, eqI_t, eqI_f, leN_t, leN_f, eqN_t, eqN_f, eqS_t, eqS_f, eqB_t, eqB_f, catOk_t, leC_t] at g4 g5
      have tail : (∀ j y, k = j + 1 → l[j]? = some y → y.id < f.id) → rr_vc_1 nx (pipeV l) (fun _ _ x m => rI nx l x.i m) K f.ends0.data f.ends0.readers f.ends0.writers f.ends0.ever f.ends1.data f.ends1.readers f.ends1.writers f.ends1.ever f.id l m ⟨(k : Int)⟩ := by
        intro hprev
        unfold rr_vc_1
        refine ⟨f.ends0, rfl, ?_⟩
        rw [br_iff]; refine ⟨fun g => no hlt fun q => ?_, fun g7 => ⟨f.ends1, rfl, ?_⟩⟩
        · simp only [br_iff, need_iff, andB_t, andB_f, orB_t, orB_f, notB_t, notB_f, leI_t, leI_f, ltI_t, ltI_f, eqI_t, eqI_f, leN_t, leN_f, eqN_t, eqN_f, eqS_t, eqS_f, eqB_t, eqB_f, catOk_t, leC_t] at g; have := (get q).1.2.2.1; rw [g] at this; cases this
        rw [br_iff]; refine ⟨fun g => no hlt fun q => ?_, fun g8 => ⟨f, rfl, ?_⟩⟩
        · simp only [br_iff, need_iff, andB_t, andB_f, orB_t, orB_f, notB_t, notB_f, leI_t, leI_f, ltI_t, ltI_f, eqI_t, eqI_f, leN_t, leN_f, eqN_t, eqN_f, eqS_t, eqS_f, eqB_t, eqB_f, catOk_t, leC_t] at g; have := (get q).1.2.2.2; rw [g] at this; cases this
        simp only [br_iff, need_iff, andB_t, andB_f, orB_t, orB_f, notB_t, notB_f, leI_t, leI_f, ltI_t, ltI_f, eqI_t, eqI_f, leN_t, leN_f, eqN_t, eqN_f, eqS_t, eqS_f, eqB_t, eqB_f, catOk_t, leC_t] at g7 g8
        rw [finR_eq g7 g8]
        rw [br_iff]; refine ⟨fun g => no hlt fun q => ?_, fun g6 => ⟨rfl, nxt ⟨f, gf, ⟨⟨by omega, by omega⟩, g6, g7, g8⟩, hprev⟩⟩⟩
        · have := (get q).1.2.1; rw [g] at this; cases this
      rw [br_iff]; refine ⟨fun g6 => ?_, fun g6 => tail fun j y hj _ => ?_⟩
      · have g6 : 0 < k := by simp only [br_iff, need_iff, andB_t, andB_f, orB_t, orB_f, notB_t, notB_f, leI_t, leI_f, ltI_t, ltI_f, eqI_t, eqI_f, leN_t, leN_f, eqN_t, eqN_f, eqS_t, eqS_f, eqB_t, eqB_f, catOk_t, leC_t] at g6; omega
        obtain ⟨j, rfl⟩ : ∃ j, k = j + 1 := ⟨k - 1, by omega⟩
        have e1 : subI .i64 ((j + 1 : Nat) : Int) 1 = (j : Int) := by rw [subI_i64 (by omega) (by omega)]; omega
        have hj : j < l.length := by omega
        have gg : l[j]? = some l[j] := List.getElem?_eq_getElem hj
        generalize l[j] = g at gg
        have rg := pipeV_row gg
        have kg : okRow (pipeV l) (Int.toNat (j : Int)) 9 = true := by simpa using pipeV_ok (l := l) (i := j) hj
        have ng : andB (leI 0 (j : Int)) (ltI (j : Int) (l.length : Int)) = true := by simp only [br_iff, need_iff, andB_t, andB_f, orB_t, orB_f, notB_t, notB_f, leI_t, leI_f, ltI_t, ltI_f, eqI_t, eqI_f, leN_t, leN_f, eqN_t, eqN_f, eqS_t, eqS_f, eqB_t, eqB_f, catOk_t, leC_t]; omega
        rw [e1]
        rw [need_iff, need_iff]
        refine ⟨ng, kg, ?_⟩
        try rw [rg]
        repeat apply Exists.intro
        refine ⟨rfl, ?_⟩
        rw [br_iff]; refine ⟨fun q => no hlt fun q2 => ?_, fun q => tail fun j' y hj' hy => ?_⟩
        · have := (get q2).2 j g rfl gg; simp only [br_iff, need_iff, andB_t, andB_f, orB_t, orB_f, notB_t, notB_f, leI_t, leI_f, ltI_t, ltI_f, eqI_t, eqI_f, leN_t, leN_f, eqN_t, eqN_f, eqS_t, eqS_f, eqB_t, eqB_f, catOk_t, leC_t] at q; omega
        · obtain rfl : j' = j := by omega
          obtain rfl := Option.some.inj (gg.symm.trans hy)
          simp only [br_iff, need_iff, andB_t, andB_f, orB_t, orB_f, notB_t, notB_f, leI_t, leI_f, ltI_t, ltI_f, eqI_t, eqI_f, leN_t, leN_f, eqN_t, eqN_f, eqS_t, eqS_f, eqB_t, eqB_f, catOk_t, leC_t] at q; omega
      · simp only [br_iff, need_iff, andB_t, andB_f, orB_t, orB_f, notB_t, notB_f, leI_t, leI_f, ltI_t, ltI_f, eqI_t, eqI_f, leN_t, leN_f, eqN_t, eqN_f, eqS_t, eqS_f, eqB_t, eqB_f, catOk_t, leC_t] at g6; omega
    · have : k = l.length := by simp only [br_iff, need_iff, andB_t, andB_f, orB_t, orB_f, notB_t, notB_f, leI_t, leI_f, ltI_t, ltI_f, eqI_t, eqI_f, leN_t, leN_f, eqN_t, eqN_f, eqS_t, eqS_f, eqB_t, eqB_f, catOk_t, leC_t] at hge; omega
      subst this
      exact e (rightP_iff.2 ⟨by omega, by omega, by omega, hp⟩).symm
  · exact h.elim
end Go.Proofs.YtjplfafojmkpbaaDoor
namespace Go.Proofs.YtjplfafojmkpbaaDoor
open Go.RowKit
set_option maxRecDepth 100000
set_option linter.unusedVariables false
set_option linter.unusedSimpArgs false
def idxN (n : Int) : List Pipe → Nat → Option Nat
  | [], _ => none
  | a :: l, k => if a.id = n then some k else idxN n l (k + 1)

def idxP (l : List Pipe) (n : Int) : Int := match idxN n l 0 with
  | some k => (k : Int)
  | none => -1

def atF (l : List Pipe) (id : Int) : Int := if id ≤ 1 then -1 else idxP l (divI id 2)

def cloneCon : Con := fun vs bs K => match vs, bs with
  | [.agg [.int .i64 n, .lst xs]], [] => ∃ l, xs = pipeV l ∧ l.length ≤ 100000 ∧ K (.agg [.int .i64 n, .ref 0 0 l.length l.length]) [⟨true, false, true, pipeV l⟩]
  | _, _ => False

def ixCon : Con := fun vs bs K => match vs, bs with
  | [.lst xs, .func 50 [] [.ptr 0 0 0]], [⟨true, true, true, [[.int .i64 s]]⟩] => ∃ l, xs = pipeV l ∧ l.length ≤ 100000 ∧ (0 ≤ s ∧ s ≤ 9223372036854775807) ∧ K (.int .i64 (idxP l (divI s 2))) [⟨true, true, true, [[.int .i64 s]]⟩]
  | _, _ => False

def findCon : Con := fun vs bs K => match vs, bs with
  | [.agg [.int .i64 n, .lst xs], .int .i64 id], [] => ∃ l, xs = pipeV l ∧ l.length ≤ 100000 ∧ id ≤ 9223372036854775807 ∧
      br (ltI (atF l id) 0) (∀ i k, K (.tup [.int .i64 i, .int .i64 k, .bool false]) []) (K (.tup [.int .i64 (atF l id), .int .i64 (modI id 2), .bool true]) [])
  | _, _ => False

def okL (l : List Pipe) : Prop := l.length ≤ 1000 ∧ ∀ x ∈ l, soundB x.ends0 = true ∧ soundB x.ends1 = true

def atCon : Con := fun vs bs K => match vs, bs with
  | [.agg [.int .i64 n, .lst xs], .int .i64 id], [] => ∃ l, xs = pipeV l ∧ l.length ≤ 100000 ∧ id ≤ 9223372036854775807 ∧ K (.int .i64 (atF l id)) []
  | _, _ => False

def delCon : Con := fun vs bs K => match vs, bs with
  | [.ref 0 0 n m, .int .i64 i, .int .i64 j], [⟨true, false, true, xs⟩] => ∃ l : List Pipe, ∃ k : Nat, xs = pipeV l ∧ n = l.length ∧ m = l.length ∧ i = (k : Int) ∧ j = (k : Int) + 1 ∧ k < l.length ∧ l.length ≤ 100000 ∧
      ∀ ys, K (.ref 0 0 (l.length - 1) l.length) [⟨true, false, true, pipeV (l.eraseIdx k) ++ ys⟩]
  | _, _ => False

def withE (x : Pipe) (k : Int) (e : End) : Pipe := if k = 0 then { x with ends0 := e } else { x with ends1 := e }

def endOf (x : Pipe) (k : Int) : End := if k = 0 then x.ends0 else x.ends1

def putCon : Con := fun vs bs K => match vs, bs with
  | [.agg [.int .i64 n, .lst xs], .int .i64 i, .int .i64 k, .agg cs], [] => ∃ l : List Pipe, ∃ e : End, ∃ j : Nat, ∃ x : Pipe, xs = pipeV l ∧ cs = e.v ∧ l.length ≤ 100000 ∧ i = (j : Int) ∧ l[j]? = some x ∧ K (.agg [.int .i64 n, .lst (pipeV (l.set j (withE x k e)))]) []
  | _, _ => False

def endCon : Con := fun vs bs K => match vs, bs with
  | [.agg [.int .i64 n, .lst xs], .int .i64 id], [] => ∃ l, xs = pipeV l ∧ l.length ≤ 100000 ∧ id ≤ 9223372036854775807 ∧
      br (eqI id 1) (K (.tup [.int .i64 0, .int .i64 0, .int .i64 10]) []) (br (ltI (atF l id) 0) (K (.tup [.int .i64 0, .int .i64 0, .int .i64 8]) []) (K (.tup [.int .i64 (atF l id), .int .i64 (modI id 2), .int .i64 0]) []))
  | _, _ => False

structure ifxC where
  xs : List (List V)
  s : Int
  cnt : Int
structure ifxX where
  i : Int
def ifxSt (c : ifxC) (x : ifxX) : St := ⟨[(0, .lst c.xs), (1, .func 50 [] [.ptr 0 0 0]), (7, .int .i64 c.cnt), (8, .int .i64 x.i)], [(0, ⟨true, true, true, [[.int .i64 c.s]]⟩)]⟩
def ifxUn (s : St) : Option (ifxC × ifxX) :=
  match s with
  | ⟨[(q0, .lst xs), (q1, .func q2 [] [.ptr q3 q4 q5]), (q6, .int .i64 cnt), (q7, .int .i64 i)], [(q8, ⟨true, true, true, [[.int .i64 s]]⟩)]⟩ => bif Nat.beq q0 0 && Nat.beq q1 1 && Nat.beq q2 50 && Nat.beq q3 0 && Nat.beq q4 0 && Nat.beq q5 0 && Nat.beq q6 7 && Nat.beq q7 8 && Nat.beq q8 0 then some (⟨xs, s, cnt⟩, ⟨i⟩) else none
  | _ => none
def ifxL (inv : ifxC → ifxX → ifxX → Nat → Prop) : LoopS where
  C := ifxC
  X := ifxX
  st := ifxSt
  un := ifxUn
  ok := by
    intro s c x h
    unfold ifxUn at h
    split at h
    · simp only [Bool.cond_eq_ite] at h
      split at h
      · rename_i hg
        simp only [Bool.and_eq_true, Nat.beq_eq] at hg
        obtain ⟨⟨⟨⟨⟨⟨⟨⟨rfl, rfl⟩, rfl⟩, rfl⟩, rfl⟩, rfl⟩, rfl⟩, rfl⟩, rfl⟩ := hg
        cases h
        rfl
      · cases h
    · cases h
  inv := inv

structure atxC where
  id : Int
  next : Int
  xs : List (List V)
structure atxX where
  i : Int
def atxSt (c : atxC) (x : atxX) : St := ⟨[(1, .int .i64 c.id), (2, .ptr 0 0 0), (5, .int .i64 x.i)], [(0, ⟨true, true, true, [[.int .i64 c.next, .lst c.xs]]⟩)]⟩
def atxUn (s : St) : Option (atxC × atxX) :=
  match s with
  | ⟨[(q0, .int .i64 id), (q1, .ptr q2 q3 q4), (q5, .int .i64 i)], [(q6, ⟨true, true, true, [[.int .i64 next, .lst xs]]⟩)]⟩ => bif Nat.beq q0 1 && Nat.beq q1 2 && Nat.beq q2 0 && Nat.beq q3 0 && Nat.beq q4 0 && Nat.beq q5 5 && Nat.beq q6 0 then some (⟨id, next, xs⟩, ⟨i⟩) else none
  | _ => none
def atxL (inv : atxC → atxX → atxX → Nat → Prop) : LoopS where
  C := atxC
  X := atxX
  st := atxSt
  un := atxUn
  ok := by
    intro s c x h
    unfold atxUn at h
    split at h
    · simp only [Bool.cond_eq_ite] at h
      split at h
      · rename_i hg
        simp only [Bool.and_eq_true, Nat.beq_eq] at hg
        obtain ⟨⟨⟨⟨⟨⟨rfl, rfl⟩, rfl⟩, rfl⟩, rfl⟩, rfl⟩, rfl⟩ := hg
        cases h
        rfl
      · cases h
    · cases h
  inv := inv

theorem cl_vc (n : Int) (xs : List (List V)) (K : V → List Bk → Prop) : vcF Tryd.prog cfgN (ctOf []) (lpOf []) 36 [.agg [.int .i64 n, .lst xs]] [] K = (
  need (headOkP 9 xs) (
  need (leN (xs.length * 88) 140737488355328) (
  K (V.agg [V.int IntKind.i64 n, V.ref 0 0 xs.length xs.length]) [Bk.mk true false true xs]))) := by kernel_rfl

theorem ifx_vc (xs : List (List V)) (s : Int) (I : ifxC → ifxX → ifxX → Nat → Prop) (K : V → List Bk → Prop) : vcF Tryd.prog cfgN (ctOf [(50, inlC Tryd.prog cfgN (ctOf []) 50)]) (lpOf [(2, ifxL I)]) 49 [.lst xs, .func 50 [] [.ptr 0 0 0]] [⟨true, true, true, [[.int .i64 s]]⟩] K = (
  (∃ m4 : Nat, (m4 < 18446744073709551616) ∧ (
  I (ifxC.mk xs s (lenL xs)) (ifxX.mk 0) (ifxX.mk 0) m4)) ∧ (
  ∀ x4 : (ifxL I).X, ∀ m5 : Nat, (I (ifxC.mk xs s (lenL xs)) (ifxX.mk 0) x4 m5) → (
  br (ltI x4.1 (lenL xs)) (
    need (andB (leI 0 x4.1) (ltI x4.1 (lenL xs))) (
    need (okRow xs x4.1.toNat 9) (
    ∃ n6 : Int, ∃ s7 : List UInt8, ∃ n8 : Int, ∃ n9 : Int, ∃ b10 : Bool, ∃ s11 : List UInt8, ∃ n12 : Int, ∃ n13 : Int, ∃ b14 : Bool, ((sub (rowAt xs x4.1) 0 9 : Option (List V)) = some [V.int IntKind.i64 n6, V.str s7, V.int IntKind.i64 n8, V.int IntKind.i64 n9, V.bool b10, V.str s11, V.int IntKind.i64 n12, V.int IntKind.i64 n13, V.bool b14]) ∧ (
    br (eqI n6 (quoI IntKind.i64 s 2)) (
      K (V.int IntKind.i64 x4.1) [Bk.mk true true true [[V.int IntKind.i64 s]]]) (
      ((ifxC.mk xs s (lenL xs) : (ifxL I).C) = ifxC.mk xs s (lenL xs)) ∧ (
      ∃ m'15 : Nat, (m'15 < m5) ∧ (
      I (ifxC.mk xs s (lenL xs)) (ifxX.mk 0) (ifxX.mk (addI IntKind.i64 x4.1 1)) m'15))))))) (
    K (V.int IntKind.i64 (-1)) [Bk.mk true true true [[V.int IntKind.i64 s]]])))) := by kernel_rfl

theorem fnd_vc (n : Int) (xs : List (List V)) (id : Int) (K : V → List Bk → Prop) : vcF Tryd.prog cfgN (ctOf [(49, ixCon)]) (lpOf []) 37 [.agg [.int .i64 n, .lst xs], .int .i64 id] [] K = (
  br (leI id 1) (
    K (V.tup [V.int IntKind.i64 0, V.int IntKind.i64 0, V.bool false]) []) (
    ∃ l4 : List Pipe, ((xs : List (List V)) = pipeV l4) ∧ (
    (l4.length ≤ 100000) ∧ (
    ((0 ≤ id) ∧ (
    id ≤ 9223372036854775807)) ∧ (
    K (V.tup [V.int IntKind.i64 (idxP l4 (divI id 2)), V.int IntKind.i64 (id.tmod 2), V.bool (leI 0 (idxP l4 (divI id 2)))]) []))))) := by kernel_rfl

theorem at_vc (n : Int) (xs : List (List V)) (id : Int) (I : atxC → atxX → atxX → Nat → Prop) (K : V → List Bk → Prop) : vcF Tryd.prog cfgN (ctOf []) (lpOf [(2, atxL I)]) 43 [.agg [.int .i64 n, .lst xs], .int .i64 id] [] K = (
  (∃ m5 : Nat, (m5 < 18446744073709551616) ∧ (
  I (atxC.mk id n xs) (atxX.mk 0) (atxX.mk 0) m5)) ∧ (
  ∀ x5 : (atxL I).X, ∀ m6 : Nat, (I (atxC.mk id n xs) (atxX.mk 0) x5 m6) → (
  br (ltI x5.1 (lenL xs)) (
    br (ltI 1 id) (
      need (andB (leI 0 x5.1) (ltI x5.1 (lenL xs))) (
      need (okRow xs x5.1.toNat 9) (
      ∃ n7 : Int, ((sub (rowAt xs x5.1) 0 1 : Option (List V)) = some [V.int IntKind.i64 n7]) ∧ (
      br (eqI n7 (quoI IntKind.i64 id 2)) (
        K (V.int IntKind.i64 x5.1) []) (
        ((atxC.mk id n xs : (atxL I).C) = atxC.mk id n xs) ∧ (
        ∃ m'8 : Nat, (m'8 < m6) ∧ (
        I (atxC.mk id n xs) (atxX.mk 0) (atxX.mk (addI IntKind.i64 x5.1 1)) m'8))))))) (
      ((atxC.mk id n xs : (atxL I).C) = atxC.mk id n xs) ∧ (
      ∃ m'7 : Nat, (m'7 < m6) ∧ (
      I (atxC.mk id n xs) (atxX.mk 0) (atxX.mk (addI IntKind.i64 x5.1 1)) m'7)))) (
    K (V.int IntKind.i64 (-1)) [])))) := by kernel_rfl

theorem end2_vc (n : Int) (xs : List (List V)) (id : Int) (K : V → List Bk → Prop) : vcF Tryd.prog cfgN (ctOf [(37, findCon)]) (lpOf []) 40 [.agg [.int .i64 n, .lst xs], .int .i64 id] [] K = (
  br (eqI id 1) (
    K (V.tup [V.int IntKind.i64 0, V.int IntKind.i64 0, V.int IntKind.i64 10]) []) (
    ∃ l4 : List Pipe, ((xs : List (List V)) = pipeV l4) ∧ (
    (l4.length ≤ 100000) ∧ (
    (id ≤ 9223372036854775807) ∧ (
    br (ltI (atF l4 id) 0) (
      ∀ i5 : Int, ∀ k6 : Int, K (V.tup [V.int IntKind.i64 0, V.int IntKind.i64 0, V.int IntKind.i64 8]) []) (
      K (V.tup [V.int IntKind.i64 (atF l4 id), V.int IntKind.i64 (modI id 2), V.int IntKind.i64 0]) [])))))) := by kernel_rfl

theorem put_vc (n : Int) (l : List Pipe) (i k : Int) (e : End) (K : V → List Bk → Prop) : vcF Tryd.prog cfgN (ctOf []) (lpOf []) 47 [.agg [.int .i64 n, .lst (pipeV l)], .int .i64 i, .int .i64 k, .agg e.v] [] K = (
  need (headOkP 9 (pipeV l)) (
  need (leN ((pipeV l).length * 88) 140737488355328) (
  need (andB (leI 0 i) (ltI i (Int.ofNat (pipeV l).length))) (
  need (okRow (pipeV l) (0 + i.toNat) 9) (
  ∃ n6 : Int, ∃ s7 : List UInt8, ∃ n8 : Int, ∃ n9 : Int, ∃ b10 : Bool, ∃ s11 : List UInt8, ∃ n12 : Int, ∃ n13 : Int, ∃ b14 : Bool, ((partAt (pipeV l) (0 + i.toNat) 0 9 : Option (List V)) = some [V.int IntKind.i64 n6, V.str s7, V.int IntKind.i64 n8, V.int IntKind.i64 n9, V.bool b10, V.str s11, V.int IntKind.i64 n12, V.int IntKind.i64 n13, V.bool b14]) ∧ (
  br (eqI k 0) (
    need (andB (leI 0 i) (ltI i (Int.ofNat (pipeV l).length))) (
    need (okRow (pipeV l) (0 + i.toNat) 9) (
    ∃ xs15 : List (List V), ((putAt (pipeV l) (0 + i.toNat) 0 [V.int IntKind.i64 n6, V.str e.1, V.int IntKind.i64 e.2, V.int IntKind.i64 e.3, V.bool e.4, V.str s11, V.int IntKind.i64 n12, V.int IntKind.i64 n13, V.bool b14] : Option (List (List V))) = some xs15) ∧ (
    K (V.agg [V.int IntKind.i64 n, V.lst (List.take (pipeV l).length (List.drop 0 xs15))]) [])))) (
    need (andB (leI 0 i) (ltI i (Int.ofNat (pipeV l).length))) (
    need (okRow (pipeV l) (0 + i.toNat) 9) (
    ∃ xs15 : List (List V), ((putAt (pipeV l) (0 + i.toNat) 0 [V.int IntKind.i64 n6, V.str s7, V.int IntKind.i64 n8, V.int IntKind.i64 n9, V.bool b10, V.str e.1, V.int IntKind.i64 e.2, V.int IntKind.i64 e.3, V.bool e.4] : Option (List (List V))) = some xs15) ∧ (
    K (V.agg [V.int IntKind.i64 n, V.lst (List.take (pipeV l).length (List.drop 0 xs15))]) [])))))))))) := by kernel_rfl

theorem mk_vc (n : Int) (xs : List (List V)) (K : V → List Bk → Prop) : vcF Tryd.prog cfgN (ctOf [(36, cloneCon)]) (lpOf []) 13 [.agg [.int .i64 n, .lst xs]] [] K = (
  ∃ l3 : List Pipe, ((xs : List (List V)) = pipeV l3) ∧ (
  (l3.length ≤ 100000) ∧ (
  br (eqI n 0) (
    br (leI 64 (Int.ofNat l3.length)) (
      ∃ l4 : List Pipe, ((xs : List (List V)) = pipeV l4) ∧ (
      (l4.length ≤ 100000) ∧ (
      K (V.tup [V.agg [V.int IntKind.i64 n, V.lst (List.take l4.length (List.drop 0 (pipeV l4)))], V.int IntKind.i64 0, V.int IntKind.i64 22]) []))) (
      need (headOkP 9 (pipeV l3)) (
      br (leN (l3.length + 1) l3.length) (
        K (V.tup [V.agg [V.int IntKind.i64 2, V.lst (List.take (l3.length + 1) (List.drop 0 (List.take (0 + l3.length) (pipeV l3) ++ [[V.int IntKind.i64 1, V.str [], V.int IntKind.i64 0, V.int IntKind.i64 0, V.bool false, V.str [], V.int IntKind.i64 0, V.int IntKind.i64 0, V.bool false]] ++ List.drop (0 + l3.length + 1) (pipeV l3))))], V.int IntKind.i64 1, V.int IntKind.i64 0]) []) (
        need (eqN (0 + l3.length) (pipeV l3).length) (
        need (leN ((l3.length + 1) * 88) 140737488355328) (
        K (V.tup [V.agg [V.int IntKind.i64 2, V.lst (List.take (l3.length + 1) (List.drop 0 (List.drop 0 (pipeV l3) ++ [[V.int IntKind.i64 1, V.str [], V.int IntKind.i64 0, V.int IntKind.i64 0, V.bool false, V.str [], V.int IntKind.i64 0, V.int IntKind.i64 0, V.bool false]])))], V.int IntKind.i64 1, V.int IntKind.i64 0]) [])))))) (
    br (leI 64 (Int.ofNat l3.length)) (
      ∃ l4 : List Pipe, ((xs : List (List V)) = pipeV l4) ∧ (
      (l4.length ≤ 100000) ∧ (
      K (V.tup [V.agg [V.int IntKind.i64 n, V.lst (List.take l4.length (List.drop 0 (pipeV l4)))], V.int IntKind.i64 0, V.int IntKind.i64 22]) []))) (
      br (leI 549755813888 n) (
        ∃ l4 : List Pipe, ((xs : List (List V)) = pipeV l4) ∧ (
        (l4.length ≤ 100000) ∧ (
        K (V.tup [V.agg [V.int IntKind.i64 n, V.lst (List.take l4.length (List.drop 0 (pipeV l4)))], V.int IntKind.i64 0, V.int IntKind.i64 22]) []))) (
        need (headOkP 9 (pipeV l3)) (
        br (leN (l3.length + 1) l3.length) (
          K (V.tup [V.agg [V.int IntKind.i64 (addI IntKind.i64 n 1), V.lst (List.take (l3.length + 1) (List.drop 0 (List.take (0 + l3.length) (pipeV l3) ++ [[V.int IntKind.i64 n, V.str [], V.int IntKind.i64 0, V.int IntKind.i64 0, V.bool false, V.str [], V.int IntKind.i64 0, V.int IntKind.i64 0, V.bool false]] ++ List.drop (0 + l3.length + 1) (pipeV l3))))], V.int IntKind.i64 n, V.int IntKind.i64 0]) []) (
          need (eqN (0 + l3.length) (pipeV l3).length) (
          need (leN ((l3.length + 1) * 88) 140737488355328) (
          K (V.tup [V.agg [V.int IntKind.i64 (addI IntKind.i64 n 1), V.lst (List.take (l3.length + 1) (List.drop 0 (List.drop 0 (pipeV l3) ++ [[V.int IntKind.i64 n, V.str [], V.int IntKind.i64 0, V.int IntKind.i64 0, V.bool false, V.str [], V.int IntKind.i64 0, V.int IntKind.i64 0, V.bool false]])))], V.int IntKind.i64 n, V.int IntKind.i64 0]) [])))))))))) := by kernel_rfl

theorem rmk_vc (n : Int) (xs : List (List V)) (K : V → List Bk → Prop) : vcF Tryd.prog cfgN (ctOf [(26, nextCon)]) (lpOf []) 31 [.agg [.int .i64 n, .lst xs]] [] K = (
  ∃ l3 : List Pipe, ((xs : List (List V)) = pipeV l3) ∧ (
  br (leI 64 (lenL xs)) (
    K (V.tup [V.agg [V.int IntKind.i64 n, V.lst xs], V.int IntKind.i64 0, V.int IntKind.i64 22]) []) (
    br (leI 549755813888 (nextF n l3)) (
      K (V.tup [V.agg [V.int IntKind.i64 n, V.lst xs], V.int IntKind.i64 0, V.int IntKind.i64 22]) []) (
      need (headOkP 9 xs) (
      need (leN (xs.length * 88) 140737488355328) (
      need (headOkP 9 xs) (
      br (leN (xs.length + 1) xs.length) (
        K (V.tup [V.agg [V.int IntKind.i64 (addI IntKind.i64 (nextF n l3) 1), V.lst (List.take (xs.length + 1) (List.drop 0 (List.take (0 + xs.length) xs ++ [[V.int IntKind.i64 (nextF n l3), V.str [], V.int IntKind.i64 0, V.int IntKind.i64 0, V.bool false, V.str [], V.int IntKind.i64 0, V.int IntKind.i64 0, V.bool false]] ++ List.drop (0 + xs.length + 1) xs)))], V.int IntKind.i64 (nextF n l3), V.int IntKind.i64 0]) []) (
        need (eqN (0 + xs.length) xs.length) (
        need (leN ((xs.length + 1) * 88) 140737488355328) (
        K (V.tup [V.agg [V.int IntKind.i64 (addI IntKind.i64 (nextF n l3) 1), V.lst (List.take (xs.length + 1) (List.drop 0 (List.drop 0 xs ++ [[V.int IntKind.i64 (nextF n l3), V.str [], V.int IntKind.i64 0, V.int IntKind.i64 0, V.bool false, V.str [], V.int IntKind.i64 0, V.int IntKind.i64 0, V.bool false]])))], V.int IntKind.i64 (nextF n l3), V.int IntKind.i64 0]) [])))))))))) := by kernel_rfl

def op_vc_1 (n : Int) (xs : List (List V)) (id m : Int) (K : V → List Bk → Prop) (l5 : List Pipe) (l6 : List Pipe) : Prop :=
  (
          br (eqI id 1) (
            K (V.tup [V.agg [V.int IntKind.i64 n, V.lst (List.take l5.length (List.drop 0 (pipeV l5)))], V.int IntKind.i64 0]) []) (
            br (eqI (modI m 16) 3) (
              K (V.tup [V.agg [V.int IntKind.i64 n, V.lst (List.take l5.length (List.drop 0 (pipeV l5)))], V.int IntKind.i64 11]) []) (
              need (andB (leI 0 (atF l6 id)) (ltI (atF l6 id) (Int.ofNat l5.length))) (
              need (okRow (pipeV l5) (0 + (atF l6 id).toNat) 9) (
              need (andB (leI 0 (modI id 2)) (ltI (modI id 2) 2)) (
              ∃ s7 : List UInt8, ∃ n8 : Int, ∃ n9 : Int, ∃ b10 : Bool, ((partAt (pipeV l5) (0 + (atF l6 id).toNat) (1 + (modI id 2).toNat * 4) 4 : Option (List V)) = some [V.str s7, V.int IntKind.i64 n8, V.int IntKind.i64 n9, V.bool b10]) ∧ (
              br (ltI (subI IntKind.i64 9007199254740991 n8) (rdF (modI m 16))) (
                K (V.tup [V.agg [V.int IntKind.i64 n, V.lst (List.take l5.length (List.drop 0 (pipeV l5)))], V.int IntKind.i64 22]) []) (
                br (ltI (subI IntKind.i64 9007199254740991 n9) (wrF (modI m 16))) (
                  K (V.tup [V.agg [V.int IntKind.i64 n, V.lst (List.take l5.length (List.drop 0 (pipeV l5)))], V.int IntKind.i64 22]) []) (
                  need (andB (leI 0 (atF l6 id)) (ltI (atF l6 id) (Int.ofNat l5.length))) (
                  need (okRow (pipeV l5) (0 + (atF l6 id).toNat) 9) (
                  need (andB (leI 0 (modI id 2)) (ltI (modI id 2) 2)) (
                  ∃ xs11 : List (List V), ((putAt (pipeV l5) (0 + (atF l6 id).toNat) (1 + (modI id 2).toNat * 4) [V.str s7, V.int IntKind.i64 (addI IntKind.i64 n8 (rdF (modI m 16))), V.int IntKind.i64 (addI IntKind.i64 n9 (wrF (modI m 16))), V.bool true] : Option (List (List V))) = some xs11) ∧ (
                  K (V.tup [V.agg [V.int IntKind.i64 n, V.lst (List.take l5.length (List.drop 0 xs11))], V.int IntKind.i64 0]) [])))))))))))))
def op_vc_2 (n : Int) (xs : List (List V)) (id m : Int) (K : V → List Bk → Prop) (l5 : List Pipe) (i7 : Int) (k8 : Int) : Prop :=
  (
            br (eqI id 1) (
              K (V.tup [V.agg [V.int IntKind.i64 n, V.lst (List.take l5.length (List.drop 0 (pipeV l5)))], V.int IntKind.i64 0]) []) (
              br (eqI (modI m 16) 3) (
                K (V.tup [V.agg [V.int IntKind.i64 n, V.lst (List.take l5.length (List.drop 0 (pipeV l5)))], V.int IntKind.i64 11]) []) (
                need (andB (leI 0 i7) (ltI i7 (Int.ofNat l5.length))) (
                need (okRow (pipeV l5) (0 + i7.toNat) 9) (
                need (andB (leI 0 k8) (ltI k8 2)) (
                ∃ s9 : List UInt8, ∃ n10 : Int, ∃ n11 : Int, ∃ b12 : Bool, ((partAt (pipeV l5) (0 + i7.toNat) (1 + k8.toNat * 4) 4 : Option (List V)) = some [V.str s9, V.int IntKind.i64 n10, V.int IntKind.i64 n11, V.bool b12]) ∧ (
                br (ltI (subI IntKind.i64 9007199254740991 n10) (rdF (modI m 16))) (
                  K (V.tup [V.agg [V.int IntKind.i64 n, V.lst (List.take l5.length (List.drop 0 (pipeV l5)))], V.int IntKind.i64 22]) []) (
                  br (ltI (subI IntKind.i64 9007199254740991 n11) (wrF (modI m 16))) (
                    K (V.tup [V.agg [V.int IntKind.i64 n, V.lst (List.take l5.length (List.drop 0 (pipeV l5)))], V.int IntKind.i64 22]) []) (
                    need (andB (leI 0 i7) (ltI i7 (Int.ofNat l5.length))) (
                    need (okRow (pipeV l5) (0 + i7.toNat) 9) (
                    need (andB (leI 0 k8) (ltI k8 2)) (
                    ∃ xs13 : List (List V), ((putAt (pipeV l5) (0 + i7.toNat) (1 + k8.toNat * 4) [V.str s9, V.int IntKind.i64 (addI IntKind.i64 n10 (rdF (modI m 16))), V.int IntKind.i64 (addI IntKind.i64 n11 (wrF (modI m 16))), V.bool true] : Option (List (List V))) = some xs13) ∧ (
                    K (V.tup [V.agg [V.int IntKind.i64 n, V.lst (List.take l5.length (List.drop 0 xs13))], V.int IntKind.i64 0]) [])))))))))))))
theorem op_vc (n : Int) (xs : List (List V)) (id m : Int) (K : V → List Bk → Prop) : vcF Tryd.prog cfgN (ctOf [(36, cloneCon), (37, findCon), (38, baseCon), (39, usesCon)]) (lpOf []) 14 [.agg [.int .i64 n, .lst xs], .int .i64 id, .int .i64 m] [] K = (
  ∃ l5 : List Pipe, ((xs : List (List V)) = pipeV l5) ∧ (
  (l5.length ≤ 100000) ∧ (
  ∃ l6 : List Pipe, ((xs : List (List V)) = pipeV l6) ∧ (
  (l6.length ≤ 100000) ∧ (
  (id ≤ 9223372036854775807) ∧ (
  br (ltI (atF l6 id) 0) (
    ∀ i7 : Int, ∀ k8 : Int, (m ≤ 9223372036854775807) ∧ (
    br (modeOk m) (
      br (notB (eqI id 1)) (
        K (V.tup [V.agg [V.int IntKind.i64 n, V.lst (List.take l5.length (List.drop 0 (pipeV l5)))], V.int IntKind.i64 8]) []) (
        br (eqI id 1) (
          br (notB (eqI m 0)) (
            K (V.tup [V.agg [V.int IntKind.i64 n, V.lst (List.take l5.length (List.drop 0 (pipeV l5)))], V.int IntKind.i64 10]) []) (op_vc_2 n xs id m K l5 i7 k8)) (op_vc_2 n xs id m K l5 i7 k8))) (
      ∀ b9 : Int, br (notB (eqI id 1)) (
        K (V.tup [V.agg [V.int IntKind.i64 n, V.lst (List.take l5.length (List.drop 0 (pipeV l5)))], V.int IntKind.i64 8]) []) (
        K (V.tup [V.agg [V.int IntKind.i64 n, V.lst (List.take l5.length (List.drop 0 (pipeV l5)))], V.int IntKind.i64 12]) [])))) (
    (m ≤ 9223372036854775807) ∧ (
    br (modeOk m) (
      br (eqI id 1) (
        br (notB (eqI m 0)) (
          K (V.tup [V.agg [V.int IntKind.i64 n, V.lst (List.take l5.length (List.drop 0 (pipeV l5)))], V.int IntKind.i64 10]) []) (op_vc_1 n xs id m K l5 l6)) (op_vc_1 n xs id m K l5 l6)) (
      ∀ b7 : Int, K (V.tup [V.agg [V.int IntKind.i64 n, V.lst (List.take l5.length (List.drop 0 (pipeV l5)))], V.int IntKind.i64 12]) []))))))))) := by kernel_rfl

def rop_vc_2 (n : Int) (xs : List (List V)) (id m : Int) (K : V → List Bk → Prop) (l5 : List Pipe) : Prop :=
  (
            br (eqI id 1) (
              K (V.tup [V.agg [V.int IntKind.i64 n, V.lst xs], V.int IntKind.i64 0]) []) (
              br (eqI (modI m 16) 3) (
                K (V.tup [V.agg [V.int IntKind.i64 n, V.lst xs], V.int IntKind.i64 11]) []) (
                need (andB (leI 0 (atF l5 id)) (ltI (atF l5 id) (lenL xs))) (
                need (okRow xs (atF l5 id).toNat 9) (
                need (andB (leI 0 (id.tmod 2)) (ltI (id.tmod 2) 2)) (
                ∃ s6 : List UInt8, ∃ n7 : Int, ∃ n8 : Int, ∃ b9 : Bool, ((sub (rowAt xs (atF l5 id)) (1 + (id.tmod 2).toNat * 4) 4 : Option (List V)) = some [V.str s6, V.int IntKind.i64 n7, V.int IntKind.i64 n8, V.bool b9]) ∧ (
                br (ltI 9007199254740991 (addI IntKind.i64 n7 (rdF (modI m 16)))) (
                  K (V.tup [V.agg [V.int IntKind.i64 n, V.lst xs], V.int IntKind.i64 22]) []) (
                  br (ltI 9007199254740991 (addI IntKind.i64 n8 (wrF (modI m 16)))) (
                    K (V.tup [V.agg [V.int IntKind.i64 n, V.lst xs], V.int IntKind.i64 22]) []) (
                    ∃ l10 : List Pipe, ∃ e11 : End, ∃ j12 : Nat, ∃ x13 : Pipe, ((xs : List (List V)) = pipeV l10) ∧ (
                    (([V.str s6, V.int IntKind.i64 (addI IntKind.i64 n7 (rdF (modI m 16))), V.int IntKind.i64 (addI IntKind.i64 n8 (wrF (modI m 16))), V.bool true] : List V) = [V.str e11.1, V.int IntKind.i64 e11.2, V.int IntKind.i64 e11.3, V.bool e11.4]) ∧ (
                    (l10.length ≤ 100000) ∧ (
                    ((atF l5 id : Int) = Int.ofNat j12) ∧ (
                    ((l10.get?Internal j12 : Option Pipe) = some x13) ∧ (
                    K (V.tup [V.agg [V.int IntKind.i64 n, V.lst (pipeV (l10.set j12 (withE x13 (id.tmod 2) e11)))], V.int IntKind.i64 0]) []))))))))))))))
def rop_vc_1 (n : Int) (xs : List (List V)) (id m : Int) (K : V → List Bk → Prop) (l5 : List Pipe) : Prop :=
  (
      (m ≤ 9223372036854775807) ∧ (
      br (modeOk m) (
        br (eqI id 1) (
          br (notB (eqI m 0)) (
            K (V.tup [V.agg [V.int IntKind.i64 n, V.lst xs], V.int IntKind.i64 10]) []) (rop_vc_2 n xs id m K l5)) (rop_vc_2 n xs id m K l5)) (
        ∀ b6 : Int, K (V.tup [V.agg [V.int IntKind.i64 n, V.lst xs], V.int IntKind.i64 12]) [])))
theorem rop_vc (n : Int) (xs : List (List V)) (id m : Int) (K : V → List Bk → Prop) : vcF Tryd.prog cfgN (ctOf [(43, atCon), (45, baseCon), (46, usesCon), (47, putCon)]) (lpOf []) 32 [.agg [.int .i64 n, .lst xs], .int .i64 id, .int .i64 m] [] K = (
  ∃ l5 : List Pipe, ((xs : List (List V)) = pipeV l5) ∧ (
  (l5.length ≤ 100000) ∧ (
  (id ≤ 9223372036854775807) ∧ (
  br (notB (eqI id 1)) (
    br (ltI (atF l5 id) 0) (
      K (V.tup [V.agg [V.int IntKind.i64 n, V.lst xs], V.int IntKind.i64 8]) []) (rop_vc_1 n xs id m K l5)) (rop_vc_1 n xs id m K l5))))) := by kernel_rfl

theorem rd_vc (n : Int) (xs : List (List V)) (id m : Int) (K : V → List Bk → Prop) : vcF Tryd.prog cfgN (ctOf [(36, cloneCon), (40, endCon)]) (lpOf []) 16 [.agg [.int .i64 n, .lst xs], .int .i64 id, .int .i64 m] [] K = (
  ∃ l5 : List Pipe, ((xs : List (List V)) = pipeV l5) ∧ (
  (l5.length ≤ 100000) ∧ (
  ∃ l6 : List Pipe, ((xs : List (List V)) = pipeV l6) ∧ (
  (l6.length ≤ 100000) ∧ (
  (id ≤ 9223372036854775807) ∧ (
  br (eqI id 1) (
    K (V.tup [V.agg [V.int IntKind.i64 n, V.lst (List.take l5.length (List.drop 0 (pipeV l5)))], V.str [], V.bool false, V.int IntKind.i64 10]) []) (
    br (ltI (atF l6 id) 0) (
      K (V.tup [V.agg [V.int IntKind.i64 n, V.lst (List.take l5.length (List.drop 0 (pipeV l5)))], V.str [], V.bool false, V.int IntKind.i64 8]) []) (
      br (ltI m 0) (
        K (V.tup [V.agg [V.int IntKind.i64 n, V.lst (List.take l5.length (List.drop 0 (pipeV l5)))], V.str [], V.bool false, V.int IntKind.i64 1]) []) (
        need (andB (leI 0 (atF l6 id)) (ltI (atF l6 id) (Int.ofNat l5.length))) (
        need (okRow (pipeV l5) (0 + (atF l6 id).toNat) 9) (
        need (andB (leI 0 (modI id 2)) (ltI (modI id 2) 2)) (
        ∃ s7 : List UInt8, ∃ n8 : Int, ∃ n9 : Int, ∃ b10 : Bool, ((partAt (pipeV l5) (0 + (atF l6 id).toNat) (1 + (modI id 2).toNat * 4) 4 : Option (List V)) = some [V.str s7, V.int IntKind.i64 n8, V.int IntKind.i64 n9, V.bool b10]) ∧ (
        need (andB (leI 0 (atF l6 id)) (ltI (atF l6 id) (Int.ofNat l5.length))) (
        need (okRow (pipeV l5) (0 + (atF l6 id).toNat) 9) (
        need (andB (leI 0 (subI IntKind.i64 1 (modI id 2))) (ltI (subI IntKind.i64 1 (modI id 2)) 2)) (
        ∃ s11 : List UInt8, ∃ n12 : Int, ∃ n13 : Int, ∃ b14 : Bool, ((partAt (pipeV l5) (0 + (atF l6 id).toNat) (1 + (subI IntKind.i64 1 (modI id 2)).toNat * 4) 4 : Option (List V)) = some [V.str s11, V.int IntKind.i64 n12, V.int IntKind.i64 n13, V.bool b14]) ∧ (
        br (eqS s7 []) (
          br (ltI 0 m) (
            br (ltI 0 n13) (
              K (V.tup [V.agg [V.int IntKind.i64 n, V.lst (List.take l5.length (List.drop 0 (pipeV l5)))], V.str [], V.bool true, V.int IntKind.i64 0]) []) (
              K (V.tup [V.agg [V.int IntKind.i64 n, V.lst (List.take l5.length (List.drop 0 (pipeV l5)))], V.str [], V.bool (notB b14), V.int IntKind.i64 0]) [])) (
            K (V.tup [V.agg [V.int IntKind.i64 n, V.lst (List.take l5.length (List.drop 0 (pipeV l5)))], V.str [], V.bool false, V.int IntKind.i64 0]) [])) (
          need (andB (leI 0 (minI m (lenS s7))) (leI (minI m (lenS s7)) (lenS s7))) (
          need (andB (leI 0 (atF l6 id)) (ltI (atF l6 id) (Int.ofNat l5.length))) (
          need (okRow (pipeV l5) (0 + (atF l6 id).toNat) 9) (
          need (andB (leI 0 (modI id 2)) (ltI (modI id 2) 2)) (
          ∃ xs15 : List (List V), ((putAt (pipeV l5) (0 + (atF l6 id).toNat) (1 + (modI id 2).toNat * 4 + 0) [V.str (cutS s7 (minI m (lenS s7)) (lenS s7))] : Option (List (List V))) = some xs15) ∧ (
          need (andB (leI 0 (minI m (lenS s7))) (leI (minI m (lenS s7)) (lenS s7))) (
          K (V.tup [V.agg [V.int IntKind.i64 n, V.lst (List.take l5.length (List.drop 0 xs15))], V.str (cutS s7 0 (minI m (lenS s7))), V.bool false, V.int IntKind.i64 0]) [])))))))))))))))))))))))) := by kernel_rfl

def rrd_vc_1 (n : Int) (xs : List (List V)) (id m : Int) (K : V → List Bk → Prop) (s6 : List UInt8) (n7 : Int) (n8 : Int) (b9 : Bool) (l5 : List Pipe) : Prop :=
  (
                need (andB (leI 0 (minI m (lenS s6))) (leI (minI m (lenS s6)) (lenS s6))) (
                need (andB (leI 0 (minI m (lenS s6))) (leI (minI m (lenS s6)) (lenS s6))) (
                ∃ l14 : List Pipe, ∃ e15 : End, ∃ j16 : Nat, ∃ x17 : Pipe, ((xs : List (List V)) = pipeV l14) ∧ (
                (([V.str (cutS s6 (minI m (lenS s6)) (lenS s6)), V.int IntKind.i64 n7, V.int IntKind.i64 n8, V.bool b9] : List V) = [V.str e15.1, V.int IntKind.i64 e15.2, V.int IntKind.i64 e15.3, V.bool e15.4]) ∧ (
                (l14.length ≤ 100000) ∧ (
                ((atF l5 id : Int) = Int.ofNat j16) ∧ (
                ((l14.get?Internal j16 : Option Pipe) = some x17) ∧ (
                K (V.tup [V.agg [V.int IntKind.i64 n, V.lst (pipeV (l14.set j16 (withE x17 (id.tmod 2) e15)))], V.str (cutS s6 0 (minI m (lenS s6))), V.bool false, V.int IntKind.i64 0]) []))))))))
theorem rrd_vc (n : Int) (xs : List (List V)) (id m : Int) (K : V → List Bk → Prop) : vcF Tryd.prog cfgN (ctOf [(43, atCon), (47, putCon)]) (lpOf []) 33 [.agg [.int .i64 n, .lst xs], .int .i64 id, .int .i64 m] [] K = (
  ∃ l5 : List Pipe, ((xs : List (List V)) = pipeV l5) ∧ (
  (l5.length ≤ 100000) ∧ (
  (id ≤ 9223372036854775807) ∧ (
  br (eqI id 1) (
    K (V.tup [V.agg [V.int IntKind.i64 n, V.lst xs], V.str [], V.bool false, V.int IntKind.i64 10]) []) (
    br (ltI (atF l5 id) 0) (
      K (V.tup [V.agg [V.int IntKind.i64 n, V.lst xs], V.str [], V.bool false, V.int IntKind.i64 8]) []) (
      br (ltI m 0) (
        K (V.tup [V.agg [V.int IntKind.i64 n, V.lst xs], V.str [], V.bool false, V.int IntKind.i64 1]) []) (
        need (andB (leI 0 (atF l5 id)) (ltI (atF l5 id) (lenL xs))) (
        need (okRow xs (atF l5 id).toNat 9) (
        need (andB (leI 0 (id.tmod 2)) (ltI (id.tmod 2) 2)) (
        ∃ s6 : List UInt8, ∃ n7 : Int, ∃ n8 : Int, ∃ b9 : Bool, ((sub (rowAt xs (atF l5 id)) (1 + (id.tmod 2).toNat * 4) 4 : Option (List V)) = some [V.str s6, V.int IntKind.i64 n7, V.int IntKind.i64 n8, V.bool b9]) ∧ (
        need (andB (leI 0 (atF l5 id)) (ltI (atF l5 id) (lenL xs))) (
        need (okRow xs (atF l5 id).toNat 9) (
        need (andB (leI 0 (subI IntKind.i64 1 (id.tmod 2))) (ltI (subI IntKind.i64 1 (id.tmod 2)) 2)) (
        ∃ s10 : List UInt8, ∃ n11 : Int, ∃ n12 : Int, ∃ b13 : Bool, ((sub (rowAt xs (atF l5 id)) (1 + (subI IntKind.i64 1 (id.tmod 2)).toNat * 4) 4 : Option (List V)) = some [V.str s10, V.int IntKind.i64 n11, V.int IntKind.i64 n12, V.bool b13]) ∧ (
        br (eqS s6 []) (
          br (ltI 0 m) (
            br (ltI 0 n12) (
              K (V.tup [V.agg [V.int IntKind.i64 n, V.lst xs], V.str [], V.bool true, V.int IntKind.i64 0]) []) (
              br (notB b13) (
                K (V.tup [V.agg [V.int IntKind.i64 n, V.lst xs], V.str [], V.bool true, V.int IntKind.i64 0]) []) (rrd_vc_1 n xs id m K s6 n7 n8 b9 l5))) (rrd_vc_1 n xs id m K s6 n7 n8 b9 l5)) (rrd_vc_1 n xs id m K s6 n7 n8 b9 l5)))))))))))))))) := by kernel_rfl

def wt_vc_1 (n : Int) (xs : List (List V)) (id : Int) (s : List UInt8) (K : V → List Bk → Prop) (s7 : List UInt8) (l5 : List Pipe) (l6 : List Pipe) : Prop :=
  (
            br (ltI 8192 (addI IntKind.i64 (lenS s7) (lenS s))) (
              K (V.tup [V.agg [V.int IntKind.i64 n, V.lst (List.take l5.length (List.drop 0 (pipeV l5)))], V.int IntKind.i64 0, V.bool true, V.int IntKind.i64 0]) []) (
              need (andB (leI 0 (atF l6 id)) (ltI (atF l6 id) (Int.ofNat l5.length))) (
              need (okRow (pipeV l5) (0 + (atF l6 id).toNat) 9) (
              need (andB (leI 0 (subI IntKind.i64 1 (modI id 2))) (ltI (subI IntKind.i64 1 (modI id 2)) 2)) (
              ∃ s11 : List UInt8, ((partAt (pipeV l5) (0 + (atF l6 id).toNat) (1 + (subI IntKind.i64 1 (modI id 2)).toNat * 4 + 0) 1 : Option (List V)) = some [V.str s11]) ∧ (
              need (catOk s11 s) (
              need (andB (leI 0 (atF l6 id)) (ltI (atF l6 id) (Int.ofNat l5.length))) (
              need (okRow (pipeV l5) (0 + (atF l6 id).toNat) 9) (
              need (andB (leI 0 (subI IntKind.i64 1 (modI id 2))) (ltI (subI IntKind.i64 1 (modI id 2)) 2)) (
              ∃ xs12 : List (List V), ((putAt (pipeV l5) (0 + (atF l6 id).toNat) (1 + (subI IntKind.i64 1 (modI id 2)).toNat * 4 + 0) [V.str (catS s11 s)] : Option (List (List V))) = some xs12) ∧ (
              K (V.tup [V.agg [V.int IntKind.i64 n, V.lst (List.take l5.length (List.drop 0 xs12))], V.int IntKind.i64 (lenS s), V.bool false, V.int IntKind.i64 0]) [])))))))))))
theorem wt_vc (n : Int) (xs : List (List V)) (id : Int) (s : List UInt8) (K : V → List Bk → Prop) : vcF Tryd.prog cfgN (ctOf [(36, cloneCon), (40, endCon)]) (lpOf []) 15 [.agg [.int .i64 n, .lst xs], .int .i64 id, .str s] [] K = (
  ∃ l5 : List Pipe, ((xs : List (List V)) = pipeV l5) ∧ (
  (l5.length ≤ 100000) ∧ (
  ∃ l6 : List Pipe, ((xs : List (List V)) = pipeV l6) ∧ (
  (l6.length ≤ 100000) ∧ (
  (id ≤ 9223372036854775807) ∧ (
  br (eqI id 1) (
    K (V.tup [V.agg [V.int IntKind.i64 n, V.lst (List.take l5.length (List.drop 0 (pipeV l5)))], V.int IntKind.i64 0, V.bool false, V.int IntKind.i64 10]) []) (
    br (ltI (atF l6 id) 0) (
      K (V.tup [V.agg [V.int IntKind.i64 n, V.lst (List.take l5.length (List.drop 0 (pipeV l5)))], V.int IntKind.i64 0, V.bool false, V.int IntKind.i64 8]) []) (
      br (ltI 8192 (lenS s)) (
        K (V.tup [V.agg [V.int IntKind.i64 n, V.lst (List.take l5.length (List.drop 0 (pipeV l5)))], V.int IntKind.i64 0, V.bool false, V.int IntKind.i64 4]) []) (
        need (andB (leI 0 (atF l6 id)) (ltI (atF l6 id) (Int.ofNat l5.length))) (
        need (okRow (pipeV l5) (0 + (atF l6 id).toNat) 9) (
        need (andB (leI 0 (subI IntKind.i64 1 (modI id 2))) (ltI (subI IntKind.i64 1 (modI id 2)) 2)) (
        ∃ s7 : List UInt8, ∃ n8 : Int, ∃ n9 : Int, ∃ b10 : Bool, ((partAt (pipeV l5) (0 + (atF l6 id).toNat) (1 + (subI IntKind.i64 1 (modI id 2)).toNat * 4) 4 : Option (List V)) = some [V.str s7, V.int IntKind.i64 n8, V.int IntKind.i64 n9, V.bool b10]) ∧ (
        br (b10) (
          br (eqI n8 0) (
            K (V.tup [V.agg [V.int IntKind.i64 n, V.lst (List.take l5.length (List.drop 0 (pipeV l5)))], V.int IntKind.i64 0, V.bool false, V.int IntKind.i64 55]) []) (wt_vc_1 n xs id s K s7 l5 l6)) (wt_vc_1 n xs id s K s7 l5 l6)))))))))))))) := by kernel_rfl

def rwt_vc_1 (n : Int) (xs : List (List V)) (id : Int) (s : List UInt8) (K : V → List Bk → Prop) (s6 : List UInt8) (n7 : Int) (n8 : Int) (b9 : Bool) (l5 : List Pipe) : Prop :=
  (
            br (ltI 8192 (addI IntKind.i64 (lenS s6) (lenS s))) (
              K (V.tup [V.agg [V.int IntKind.i64 n, V.lst xs], V.int IntKind.i64 0, V.bool true, V.int IntKind.i64 0]) []) (
              need (catOk s6 s) (
              ∃ l10 : List Pipe, ∃ e11 : End, ∃ j12 : Nat, ∃ x13 : Pipe, ((xs : List (List V)) = pipeV l10) ∧ (
              (([V.str (catS s6 s), V.int IntKind.i64 n7, V.int IntKind.i64 n8, V.bool b9] : List V) = [V.str e11.1, V.int IntKind.i64 e11.2, V.int IntKind.i64 e11.3, V.bool e11.4]) ∧ (
              (l10.length ≤ 100000) ∧ (
              ((atF l5 id : Int) = Int.ofNat j12) ∧ (
              ((l10.get?Internal j12 : Option Pipe) = some x13) ∧ (
              K (V.tup [V.agg [V.int IntKind.i64 n, V.lst (pipeV (l10.set j12 (withE x13 (subI IntKind.i64 1 (id.tmod 2)) e11)))], V.int IntKind.i64 (lenS s), V.bool false, V.int IntKind.i64 0]) []))))))))
theorem rwt_vc (n : Int) (xs : List (List V)) (id : Int) (s : List UInt8) (K : V → List Bk → Prop) : vcF Tryd.prog cfgN (ctOf [(43, atCon), (47, putCon)]) (lpOf []) 34 [.agg [.int .i64 n, .lst xs], .int .i64 id, .str s] [] K = (
  ∃ l5 : List Pipe, ((xs : List (List V)) = pipeV l5) ∧ (
  (l5.length ≤ 100000) ∧ (
  (id ≤ 9223372036854775807) ∧ (
  br (eqI id 1) (
    K (V.tup [V.agg [V.int IntKind.i64 n, V.lst xs], V.int IntKind.i64 0, V.bool false, V.int IntKind.i64 10]) []) (
    br (ltI (atF l5 id) 0) (
      K (V.tup [V.agg [V.int IntKind.i64 n, V.lst xs], V.int IntKind.i64 0, V.bool false, V.int IntKind.i64 8]) []) (
      br (ltI 8192 (lenS s)) (
        K (V.tup [V.agg [V.int IntKind.i64 n, V.lst xs], V.int IntKind.i64 0, V.bool false, V.int IntKind.i64 4]) []) (
        need (andB (leI 0 (atF l5 id)) (ltI (atF l5 id) (lenL xs))) (
        need (okRow xs (atF l5 id).toNat 9) (
        need (andB (leI 0 (subI IntKind.i64 1 (id.tmod 2))) (ltI (subI IntKind.i64 1 (id.tmod 2)) 2)) (
        ∃ s6 : List UInt8, ∃ n7 : Int, ∃ n8 : Int, ∃ b9 : Bool, ((sub (rowAt xs (atF l5 id)) (1 + (subI IntKind.i64 1 (id.tmod 2)).toNat * 4) 4 : Option (List V)) = some [V.str s6, V.int IntKind.i64 n7, V.int IntKind.i64 n8, V.bool b9]) ∧ (
        br (b9) (
          br (eqI n7 0) (
            K (V.tup [V.agg [V.int IntKind.i64 n, V.lst xs], V.int IntKind.i64 0, V.bool false, V.int IntKind.i64 55]) []) (rwt_vc_1 n xs id s K s6 n7 n8 b9 l5)) (rwt_vc_1 n xs id s K s6 n7 n8 b9 l5)))))))))))) := by kernel_rfl

theorem cs_vc (n : Int) (xs : List (List V)) (id m : Int) (K : V → List Bk → Prop) : vcF Tryd.prog cfgN (ctOf [(36, cloneCon), (37, findCon), (38, baseCon), (39, usesCon), (29, finCon), (41, delCon)]) (lpOf []) 18 [.agg [.int .i64 n, .lst xs], .int .i64 id, .int .i64 m] [] K = (
  ∃ l5 : List Pipe, ((xs : List (List V)) = pipeV l5) ∧ (
  (l5.length ≤ 100000) ∧ (
  ∃ l6 : List Pipe, ((xs : List (List V)) = pipeV l6) ∧ (
  (l6.length ≤ 100000) ∧ (
  (id ≤ 9223372036854775807) ∧ (
  br (ltI (atF l6 id) 0) (
    ∀ i7 : Int, ∀ k8 : Int, (m ≤ 9223372036854775807) ∧ (
    br (modeOk m) (
      K (V.agg [V.int IntKind.i64 n, V.lst (List.take l5.length (List.drop 0 (pipeV l5)))]) []) (
      ∀ b9 : Int, K (V.agg [V.int IntKind.i64 n, V.lst (List.take l5.length (List.drop 0 (pipeV l5)))]) []))) (
    (m ≤ 9223372036854775807) ∧ (
    br (modeOk m) (
      need (andB (leI 0 (atF l6 id)) (ltI (atF l6 id) (Int.ofNat l5.length))) (
      need (okRow (pipeV l5) (0 + (atF l6 id).toNat) 9) (
      need (andB (leI 0 (modI id 2)) (ltI (modI id 2) 2)) (
      ∃ n7 : Int, ((partAt (pipeV l5) (0 + (atF l6 id).toNat) (1 + (modI id 2).toNat * 4 + 1) 1 : Option (List V)) = some [V.int IntKind.i64 n7]) ∧ (
      ∃ n8 : Int, ((partAt (pipeV l5) (0 + (atF l6 id).toNat) (1 + (modI id 2).toNat * 4 + 2) 1 : Option (List V)) = some [V.int IntKind.i64 n8]) ∧ (
      ∃ xs9 : List (List V), ((putAt (pipeV l5) (0 + (atF l6 id).toNat) (1 + (modI id 2).toNat * 4 + 1) [V.int IntKind.i64 (maxI (subI IntKind.i64 n7 (rdF (modI m 16))) 0)] : Option (List (List V))) = some xs9) ∧ (
      ∃ xs10 : List (List V), ((putAt xs9 (0 + (atF l6 id).toNat) (1 + (modI id 2).toNat * 4 + 2) [V.int IntKind.i64 (maxI (subI IntKind.i64 n8 (wrF (modI m 16))) 0)] : Option (List (List V))) = some xs10) ∧ (
      need (andB (leI 0 (atF l6 id)) (ltI (atF l6 id) (Int.ofNat l5.length))) (
      need (okRow xs10 (0 + (atF l6 id).toNat) 9) (
      ∃ n11 : Int, ∃ s12 : List UInt8, ∃ n13 : Int, ∃ n14 : Int, ∃ b15 : Bool, ∃ s16 : List UInt8, ∃ n17 : Int, ∃ n18 : Int, ∃ b19 : Bool, ((partAt xs10 (0 + (atF l6 id).toNat) 0 9 : Option (List V)) = some [V.int IntKind.i64 n11, V.str s12, V.int IntKind.i64 n13, V.int IntKind.i64 n14, V.bool b15, V.str s16, V.int IntKind.i64 n17, V.int IntKind.i64 n18, V.bool b19]) ∧ (
      ∃ x20 : Pipe, (([V.int IntKind.i64 n11, V.str s12, V.int IntKind.i64 n13, V.int IntKind.i64 n14, V.bool b15, V.str s16, V.int IntKind.i64 n17, V.int IntKind.i64 n18, V.bool b19] : List V) = [V.int IntKind.i64 x20.1, V.str x20.ends0.1, V.int IntKind.i64 x20.ends0.2, V.int IntKind.i64 x20.ends0.3, V.bool x20.ends0.4, V.str x20.ends1.1, V.int IntKind.i64 x20.ends1.2, V.int IntKind.i64 x20.ends1.3, V.bool x20.ends1.4]) ∧ (
      br (finB x20) (
        ∃ l21 : List Pipe, ∃ k22 : Nat, ((xs10 : List (List V)) = pipeV l21) ∧ (
        ((l5.length : Nat) = l21.length) ∧ (
        ((l5.length : Nat) = l21.length) ∧ (
        ((atF l6 id : Int) = Int.ofNat k22) ∧ (
        ((addI IntKind.i64 (atF l6 id) 1 : Int) = Int.ofNat k22 + 1) ∧ (
        (k22 < l21.length) ∧ (
        (l21.length ≤ 100000) ∧ (
        ∀ ys23 : List (List V), K (V.agg [V.int IntKind.i64 n, V.lst (List.take (l21.length - 1) (List.drop 0 (pipeV (l21.eraseIdx k22) ++ ys23)))]) [])))))))) (
        K (V.agg [V.int IntKind.i64 n, V.lst (List.take l5.length (List.drop 0 xs10))]) []))))))))))))) (
      ∀ b7 : Int, K (V.agg [V.int IntKind.i64 n, V.lst (List.take l5.length (List.drop 0 (pipeV l5)))]) []))))))))) := by kernel_rfl

end Go.Proofs.YtjplfafojmkpbaaDoor
