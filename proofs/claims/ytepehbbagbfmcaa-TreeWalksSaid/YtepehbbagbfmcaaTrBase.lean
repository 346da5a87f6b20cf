/- Trees as data. -/
import Derived.Test.YtepehbbagbfmcaaEvF
import Derived.Test.YtepehbbagbfmcaaEvE
import Derived.Test.YtepehbbagbfmcaaEvC
import Derived.Test.YtepehbbagbfmcaaEvD
namespace Go.Proofs.Ytepehbbagbfmcaa
open Go.RowKit
set_option linter.unusedVariables false
set_option linter.unusedSimpArgs false
structure Node where
  id : Int
  par : Int
  vers : Int
  name : List UInt8
  mode : Int
  uid : List UInt8
  gid : List UInt8
  muid : List UInt8
  atime : Int
  mtime : Int
  data : List UInt8
  deriving Inhabited, DecidableEq
def Node.v (x : Node) : List V := [.int .i64 x.id, .int .i64 x.par, .int .i64 x.vers, .str x.name, .int .i64 x.mode, .str x.uid, .str x.gid, .str x.muid, .int .i64 x.atime, .int .i64 x.mtime, .str x.data]
def nodeV (l : List Node) : List (List V) := l.map Node.v
theorem nodeV_len (l : List Node) : (nodeV l).length = l.length := by simp [nodeV]
theorem nodeV_row {l : List Node} {i : Nat} {f : Node} (h : l[i]? = some f) : rowAt (nodeV l) (i : Int) = f.v := by simp [rowAt, nodeV, List.getD, h]
theorem nodeV_ok {l : List Node} {i : Nat} (h : i < l.length) : okRow (nodeV l) i 11 = true := by simp [okRow, nodeV, List.getElem?_eq_getElem h, Node.v]
theorem nodeV_lenL (l : List Node) : lenL (nodeV l) = (l.length : Int) := by simp [lenL, nodeV]
theorem nodeV_all (l : List Node) : List.take l.length (nodeV l) = nodeV l := List.take_of_length_le (by simp [nodeV])
theorem nodeV_all1 (l : List Node) (x : List V) : List.take (l.length + 1) (nodeV l ++ [x]) = nodeV l ++ [x] := List.take_of_length_le (by simp [nodeV])
theorem nodeV_add (l : List Node) (f : Node) : nodeV l ++ [f.v] = nodeV (l ++ [f]) := by simp [nodeV]
theorem nodeV_part {l : List Node} {i : Nat} {f : Node} (h : l[i]? = some f) (o n : Nat) : partAt (nodeV l) i o n = sub f.v o n := by simp [partAt, nodeV, h]
theorem nodeV_put {l : List Node} {i : Nat} {f g : Node} (h : l[i]? = some f) {o : Nat} {ys : List V} (e : put f.v o ys = some g.v) : putAt (nodeV l) i o ys = some (nodeV (l.set i g)) := by simp [putAt, nodeV, h, e]
theorem nodeV_snoc {l : List Node} {j : Nat} {f : Node} (h : l[j]? = some f) : nodeV (l.take j) ++ [f.v] = nodeV (l.take (j + 1)) := by
  have := (List.getElem?_eq_some_iff.1 h); obtain ⟨h1, rfl⟩ := this
  unfold nodeV; rw [List.take_succ_eq_append_getElem h1, List.map_append]; rfl
theorem nodeV_app (a b : List Node) : nodeV a ++ nodeV b = nodeV (a ++ b) := by simp [nodeV]
theorem nodeV_take (a : List Node) (n : Nat) : List.take n (nodeV a) = nodeV (a.take n) := by simp [nodeV]
theorem nodeV_drop (a : List Node) (n : Nat) : List.drop n (nodeV a) = nodeV (a.drop n) := by simp [nodeV]
theorem nodeV_set (a : List Node) (n : Nat) (f : Node) : (nodeV a).set n f.v = nodeV (a.set n f) := by simp [nodeV]
theorem nodeV_head (a : List Node) : headOkP 11 (nodeV a) = true := by cases a <;> rfl
theorem nodeV_get (a : List Node) (i : Nat) : (nodeV a)[i]? = (a[i]?).map Node.v := by simp [nodeV]
theorem Node.eqv {x y : Node} : x = y ↔ x.id = y.id ∧ x.par = y.par ∧ x.vers = y.vers ∧ x.name = y.name ∧ x.mode = y.mode ∧ x.uid = y.uid ∧ x.gid = y.gid ∧ x.muid = y.muid ∧ x.atime = y.atime ∧ x.mtime = y.mtime ∧ x.data = y.data := by cases x; cases y; simp
theorem Node.v_inj {x y : Node} : x.v = y.v ↔ x = y := by
  cases x; cases y
  simp [Node.v, and_assoc]
theorem nodeV_inj {a b : List Node} : nodeV a = nodeV b ↔ a = b := List.map_inj_right fun _ _ h => Node.v_inj.1 h
def nodeSh : Sh := .pair (.int .i64) (.pair (.int .i64) (.pair (.int .i64) (.pair .str (.pair (.int .i64) (.pair .str (.pair .str (.pair .str (.pair (.int .i64) (.pair (.int .i64) (.pair .str .unit))))))))))
def Node.fit (x : Node) : Prop := (IntKind.i64.min ≤ x.id ∧ x.id ≤ IntKind.i64.max) ∧ (IntKind.i64.min ≤ x.par ∧ x.par ≤ IntKind.i64.max) ∧ (IntKind.i64.min ≤ x.vers ∧ x.vers ≤ IntKind.i64.max) ∧ x.name.length ≤ 140737488351232 ∧ (IntKind.i64.min ≤ x.mode ∧ x.mode ≤ IntKind.i64.max) ∧ x.uid.length ≤ 140737488351232 ∧ x.gid.length ≤ 140737488351232 ∧ x.muid.length ≤ 140737488351232 ∧ (IntKind.i64.min ≤ x.atime ∧ x.atime ≤ IntKind.i64.max) ∧ (IntKind.i64.min ≤ x.mtime ∧ x.mtime ≤ IntKind.i64.max) ∧ x.data.length ≤ 140737488351232
theorem Node.fits {vs : List V} (h : Fits nodeSh vs) : ∃ x : Node, vs = x.v ∧ x.fit := by
  unfold nodeSh at h
  obtain ⟨u1, w1, rfl, a1, b1⟩ := h
  obtain ⟨x1, rfl, fx1⟩ := a1
  obtain ⟨u2, w2, rfl, a2, b2⟩ := b1
  obtain ⟨x2, rfl, fx2⟩ := a2
  obtain ⟨u3, w3, rfl, a3, b3⟩ := b2
  obtain ⟨x3, rfl, fx3⟩ := a3
  obtain ⟨u4, w4, rfl, a4, b4⟩ := b3
  obtain ⟨x4, rfl, fx4⟩ := a4
  obtain ⟨u5, w5, rfl, a5, b5⟩ := b4
  obtain ⟨x5, rfl, fx5⟩ := a5
  obtain ⟨u6, w6, rfl, a6, b6⟩ := b5
  obtain ⟨x6, rfl, fx6⟩ := a6
  obtain ⟨u7, w7, rfl, a7, b7⟩ := b6
  obtain ⟨x7, rfl, fx7⟩ := a7
  obtain ⟨u8, w8, rfl, a8, b8⟩ := b7
  obtain ⟨x8, rfl, fx8⟩ := a8
  obtain ⟨u9, w9, rfl, a9, b9⟩ := b8
  obtain ⟨x9, rfl, fx9⟩ := a9
  obtain ⟨u10, w10, rfl, a10, b10⟩ := b9
  obtain ⟨x10, rfl, fx10⟩ := a10
  obtain ⟨u11, w11, rfl, a11, b11⟩ := b10
  obtain ⟨x11, rfl, fx11⟩ := a11
  obtain rfl : w11 = [] := b11
  exact ⟨⟨x1, x2, x3, x4, x5, x6, x7, x8, x9, x10, x11⟩, rfl, ⟨fx1, fx2, fx3, fx4, fx5, fx6, fx7, fx8, fx9, fx10, fx11⟩⟩

structure Op where
  kind : Int
  id : Int
  name : List UInt8
  mode : Int
  uid : List UInt8
  gid : List UInt8
  size : Int
  data : List UInt8
  now : Int
  deriving Inhabited, DecidableEq
def Op.v (x : Op) : List V := [.int .i64 x.kind, .int .i64 x.id, .str x.name, .int .i64 x.mode, .str x.uid, .str x.gid, .int .i64 x.size, .str x.data, .int .i64 x.now]
def opV (l : List Op) : List (List V) := l.map Op.v
theorem opV_len (l : List Op) : (opV l).length = l.length := by simp [opV]
theorem opV_row {l : List Op} {i : Nat} {f : Op} (h : l[i]? = some f) : rowAt (opV l) (i : Int) = f.v := by simp [rowAt, opV, List.getD, h]
theorem opV_ok {l : List Op} {i : Nat} (h : i < l.length) : okRow (opV l) i 9 = true := by simp [okRow, opV, List.getElem?_eq_getElem h, Op.v]
theorem opV_lenL (l : List Op) : lenL (opV l) = (l.length : Int) := by simp [lenL, opV]
theorem opV_all (l : List Op) : List.take l.length (opV l) = opV l := List.take_of_length_le (by simp [opV])
theorem opV_all1 (l : List Op) (x : List V) : List.take (l.length + 1) (opV l ++ [x]) = opV l ++ [x] := List.take_of_length_le (by simp [opV])
theorem opV_add (l : List Op) (f : Op) : opV l ++ [f.v] = opV (l ++ [f]) := by simp [opV]
theorem opV_part {l : List Op} {i : Nat} {f : Op} (h : l[i]? = some f) (o n : Nat) : partAt (opV l) i o n = sub f.v o n := by simp [partAt, opV, h]
theorem opV_put {l : List Op} {i : Nat} {f g : Op} (h : l[i]? = some f) {o : Nat} {ys : List V} (e : put f.v o ys = some g.v) : putAt (opV l) i o ys = some (opV (l.set i g)) := by simp [putAt, opV, h, e]
theorem opV_snoc {l : List Op} {j : Nat} {f : Op} (h : l[j]? = some f) : opV (l.take j) ++ [f.v] = opV (l.take (j + 1)) := by
  have := (List.getElem?_eq_some_iff.1 h); obtain ⟨h1, rfl⟩ := this
  unfold opV; rw [List.take_succ_eq_append_getElem h1, List.map_append]; rfl
theorem opV_app (a b : List Op) : opV a ++ opV b = opV (a ++ b) := by simp [opV]
theorem opV_take (a : List Op) (n : Nat) : List.take n (opV a) = opV (a.take n) := by simp [opV]
theorem opV_drop (a : List Op) (n : Nat) : List.drop n (opV a) = opV (a.drop n) := by simp [opV]
theorem opV_set (a : List Op) (n : Nat) (f : Op) : (opV a).set n f.v = opV (a.set n f) := by simp [opV]
theorem opV_head (a : List Op) : headOkP 9 (opV a) = true := by cases a <;> rfl
theorem opV_get (a : List Op) (i : Nat) : (opV a)[i]? = (a[i]?).map Op.v := by simp [opV]
theorem Op.eqv {x y : Op} : x = y ↔ x.kind = y.kind ∧ x.id = y.id ∧ x.name = y.name ∧ x.mode = y.mode ∧ x.uid = y.uid ∧ x.gid = y.gid ∧ x.size = y.size ∧ x.data = y.data ∧ x.now = y.now := by cases x; cases y; simp
theorem Op.v_inj {x y : Op} : x.v = y.v ↔ x = y := by
  cases x; cases y
  simp [Op.v, and_assoc]
theorem opV_inj {a b : List Op} : opV a = opV b ↔ a = b := List.map_inj_right fun _ _ h => Op.v_inj.1 h
def opSh : Sh := .pair (.int .i64) (.pair (.int .i64) (.pair .str (.pair (.int .i64) (.pair .str (.pair .str (.pair (.int .i64) (.pair .str (.pair (.int .i64) .unit))))))))
def Op.fit (x : Op) : Prop := (IntKind.i64.min ≤ x.kind ∧ x.kind ≤ IntKind.i64.max) ∧ (IntKind.i64.min ≤ x.id ∧ x.id ≤ IntKind.i64.max) ∧ x.name.length ≤ 140737488351232 ∧ (IntKind.i64.min ≤ x.mode ∧ x.mode ≤ IntKind.i64.max) ∧ x.uid.length ≤ 140737488351232 ∧ x.gid.length ≤ 140737488351232 ∧ (IntKind.i64.min ≤ x.size ∧ x.size ≤ IntKind.i64.max) ∧ x.data.length ≤ 140737488351232 ∧ (IntKind.i64.min ≤ x.now ∧ x.now ≤ IntKind.i64.max)
theorem Op.fits {vs : List V} (h : Fits opSh vs) : ∃ x : Op, vs = x.v ∧ x.fit := by
  unfold opSh at h
  obtain ⟨u1, w1, rfl, a1, b1⟩ := h
  obtain ⟨x1, rfl, fx1⟩ := a1
  obtain ⟨u2, w2, rfl, a2, b2⟩ := b1
  obtain ⟨x2, rfl, fx2⟩ := a2
  obtain ⟨u3, w3, rfl, a3, b3⟩ := b2
  obtain ⟨x3, rfl, fx3⟩ := a3
  obtain ⟨u4, w4, rfl, a4, b4⟩ := b3
  obtain ⟨x4, rfl, fx4⟩ := a4
  obtain ⟨u5, w5, rfl, a5, b5⟩ := b4
  obtain ⟨x5, rfl, fx5⟩ := a5
  obtain ⟨u6, w6, rfl, a6, b6⟩ := b5
  obtain ⟨x6, rfl, fx6⟩ := a6
  obtain ⟨u7, w7, rfl, a7, b7⟩ := b6
  obtain ⟨x7, rfl, fx7⟩ := a7
  obtain ⟨u8, w8, rfl, a8, b8⟩ := b7
  obtain ⟨x8, rfl, fx8⟩ := a8
  obtain ⟨u9, w9, rfl, a9, b9⟩ := b8
  obtain ⟨x9, rfl, fx9⟩ := a9
  obtain rfl : w9 = [] := b9
  exact ⟨⟨x1, x2, x3, x4, x5, x6, x7, x8, x9⟩, rfl, ⟨fx1, fx2, fx3, fx4, fx5, fx6, fx7, fx8, fx9⟩⟩

end Go.Proofs.Ytepehbbagbfmcaa
namespace Go.Proofs.Ytepehbbagbfmcaa
open Go.RowKit
/-- The live slots at the loops' heads. -/
def keepS : List (Nat × Nat × List Nat) := [(7, 10, [1, 2, 9, 10, 45, 46]), (8, 13, [7, 8, 9, 10, 11, 12, 13, 14, 15, 16, 17, 18, 19, 20, 86, 87]), (10, 8, [2, 5, 8, 9, 47, 48]), (10, 17, [2, 5, 8, 9, 78, 79]),
  (12, 4, [2, 3, 5]), (15, 3, [1, 3, 8, 9]), (16, 5, [1, 3, 4, 25, 26, 27]), (17, 7, [3, 4]), (17, 13, [3, 4, 5, 6]), (23, 8, [2, 6, 7, 8, 9]), (24, 4, [0, 200003, 4, 5]),
  (27, 9, [1, 2, 3, 10]), (28, 6, [2, 6, 8, 9]), (29, 5, [1, 200005, 13, 14, 15]), (30, 3, [1, 2, 200005, 6]), (40, 4, [0, 20, 21]), (42, 2, [0, 3]), (46, 2, [1, 2, 5]),
  (59, 10, [1, 2, 3, 4, 8, 10, 200012, 13]), (67, 2, [1, 8, 9, 10]), (72, 3, [2, 3, 4, 200005, 6])]
def cfgN : Cfg where
  glob := glT
  rows := fun _ => none
  prim := fun f => bif Nat.beq f 66 then some repPrim else none
  ref := fun f => has [67, 69, 68, 50] f
  self := fun _ => false
  bstr := fun _ => false
  clone := fun _ => false
  res := fun f => bif has [47, 72, 70] f then 2 else bif has [13, 33, 54, 22, 55, 56, 57, 29, 14, 58, 59, 60, 61, 62, 63, 30, 24, 31, 32] f then 1 else 0
  keep := keepOf keepS
theorem cfgN_ok : CfgOk Try.prog cfgN where
  prim := fun f g e => by
    simp only [cfgN, Bool.cond_eq_ite] at e
    split at e
    · rename_i h
      have h := Nat.eq_of_beq_eq_true h
      subst h; cases e
      exact @rep_prim _
    · cases e
  self := fun f e => by cases e
  clone := fun f e => by cases e
  bstr := fun f e => by cases e
end Go.Proofs.Ytepehbbagbfmcaa
namespace Go.Proofs.Ytepehbbagbfmcaa
open Go.RowKit
theorem awake_ev {n : Nat} (h : 12 ≤ n) : evalF Try.prog cfgN n 11 [] [] = some (.bool true, []) := by
  obtain ⟨k, rfl⟩ : ∃ k, n = k + 12 := ⟨n - 12, by omega⟩
  kernel_rfl
end Go.Proofs.Ytepehbbagbfmcaa
namespace Go.Proofs.Ytepehbbagbfmcaa
open Go.RowKit
set_option maxRecDepth 100000
set_option linter.unusedVariables false
set_option linter.unusedSimpArgs false
def dirB (m : Int) : Bool := decide (0 ≤ m ∧ m / 2147483648 % 2 = 1)

def appB (m : Int) : Bool := decide (0 ≤ m ∧ m / 1073741824 % 2 = 1)

def validB (m : Int) : Bool := decide (0 ≤ m ∧ (m - m % 512 = 0 ∨ m - m % 512 = 2147483648 ∨ m - m % 512 = 1073741824 ∨ m - m % 512 = 536870912 ∨ m - m % 512 = 1610612736))

def clockF (n : Int) : Int := min (max n 0) 1099511627776

def shortF (s : List UInt8) : List UInt8 := if s.length ≤ 64 then s else []

def isDirB (m : Int) : Bool := decide (2147483648 ≤ m)

def soundB (x : Node) : Bool := decide (validB x.mode = true ∧ 0 ≤ x.vers ∧ x.vers ≤ 2147483647 ∧ 0 ≤ x.atime ∧ x.atime ≤ 1099511627776 ∧ 0 ≤ x.mtime ∧ x.mtime ≤ 1099511627776 ∧ x.uid.length ≤ 64 ∧ x.gid.length ≤ 64 ∧ x.muid.length ≤ 64 ∧ x.data.length ≤ 65536 ∧ (dirB x.mode = true → x.data = []))

def nameC (c : UInt8) : Bool := decide (33 ≤ c.toNat ∧ c.toNat ≤ 126 ∧ c.toNat ≠ 47)

def nameB (s : List UInt8) : Bool := decide (s ≠ [] ∧ s ≠ [46] ∧ s ≠ [46, 46] ∧ s.length ≤ 64) && s.all nameC

def intCon (f : Int → Bool) : Con := fun vs bs K => match vs, bs with
  | [.int .i64 m], [] => m ≤ 9223372036854775807 ∧ K (.bool (f m)) []
  | _, _ => False

def clockCon : Con := fun vs bs K => match vs, bs with
  | [.int .i64 m], [] => K (.int .i64 (clockF m)) []
  | _, _ => False

def shortCon : Con := fun vs bs K => match vs, bs with
  | [.str s], [] => K (.str (shortF s)) []
  | _, _ => False

def soundCon : Con := fun vs bs K => match vs, bs with
  | [.agg cs], [] => ∃ x : Node, cs = x.v ∧ x.mode ≤ 9223372036854775807 ∧ K (.bool (soundB x)) []
  | _, _ => False

def nameCon : Con := fun vs bs K => match vs, bs with
  | [.str s], [] => s.length ≤ 9223372036854775807 ∧ K (.bool (nameB s)) []
  | _, _ => False

structure pvC where
  s : List UInt8
  n : Int
structure pvX where
  i : Int
def pvSt (c : pvC) (x : pvX) : St := ⟨[(0, .str c.s), (20, .int .i64 c.n), (21, .int .i64 x.i)], []⟩
def pvUn (s : St) : Option (pvC × pvX) :=
  match s with
  | ⟨[(q0, .str s), (q1, .int .i64 n), (q2, .int .i64 i)], []⟩ => bif Nat.beq q0 0 && Nat.beq q1 20 && Nat.beq q2 21 then some (⟨s, n⟩, ⟨i⟩) else none
  | _ => none
def pvL (inv : pvC → pvX → pvX → Nat → Prop) : LoopS where
  C := pvC
  X := pvX
  st := pvSt
  un := pvUn
  ok := by
    intro s c x h
    unfold pvUn at h
    split at h
    · simp only [Bool.cond_eq_ite] at h
      split at h
      · rename_i hg
        simp only [Bool.and_eq_true, Nat.beq_eq] at hg
        obtain ⟨⟨rfl, rfl⟩, rfl⟩ := hg
        cases h
        rfl
      · cases h
    · cases h
  inv := inv

structure rvC where
  s : List UInt8
structure rvX where
  i : Int
def rvSt (c : rvC) (x : rvX) : St := ⟨[(0, .str c.s), (3, .int .i64 x.i)], []⟩
def rvUn (s : St) : Option (rvC × rvX) :=
  match s with
  | ⟨[(q0, .str s), (q1, .int .i64 i)], []⟩ => bif Nat.beq q0 0 && Nat.beq q1 3 then some (⟨s⟩, ⟨i⟩) else none
  | _ => none
def rvL (inv : rvC → rvX → rvX → Nat → Prop) : LoopS where
  C := rvC
  X := rvX
  st := rvSt
  un := rvUn
  ok := by
    intro s c x h
    unfold rvUn at h
    split at h
    · simp only [Bool.cond_eq_ite] at h
      split at h
      · rename_i hg
        simp only [Bool.and_eq_true, Nat.beq_eq] at hg
        obtain ⟨rfl, rfl⟩ := hg
        cases h
        rfl
      · cases h
    · cases h
  inv := inv

theorem dir_vc (m : Int) (K : V → List Bk → Prop) : vcF Try.prog cfgN (ctOf []) (lpOf []) 39 [.int .i64 m] [] K = (
  br (leI 0 m) (
    K (V.bool (eqI ((quoI IntKind.i64 m 2147483648).tmod 2) 1)) []) (
    K (V.bool false) [])) := by kernel_rfl

theorem app_vc (m : Int) (K : V → List Bk → Prop) : vcF Try.prog cfgN (ctOf []) (lpOf []) 48 [.int .i64 m] [] K = (
  br (leI 0 m) (
    K (V.bool (eqI ((quoI IntKind.i64 m 1073741824).tmod 2) 1)) []) (
    K (V.bool false) [])) := by kernel_rfl

theorem val_vc (m : Int) (K : V → List Bk → Prop) : vcF Try.prog cfgN (ctOf []) (lpOf []) 64 [.int .i64 m] [] K = (
  br (ltI m 0) (
    K (V.bool false) []) (
    br (eqI (subI IntKind.i64 m (m.tmod 512)) 0) (
      K (V.bool true) []) (
      br (eqI (subI IntKind.i64 m (m.tmod 512)) 2147483648) (
        K (V.bool true) []) (
        br (eqI (subI IntKind.i64 m (m.tmod 512)) 1073741824) (
          K (V.bool true) []) (
          br (eqI (subI IntKind.i64 m (m.tmod 512)) 536870912) (
            K (V.bool true) []) (
            br (eqI (subI IntKind.i64 m (m.tmod 512)) 1610612736) (
              K (V.bool true) []) (
              K (V.bool false) []))))))) := by kernel_rfl

theorem clk_vc (m : Int) (K : V → List Bk → Prop) : vcF Try.prog cfgN (ctOf []) (lpOf []) 35 [.int .i64 m] [] K = (
  K (V.int IntKind.i64 (minI (maxI m 0) 1099511627776)) []) := by kernel_rfl

theorem sho_vc (s : List UInt8) (K : V → List Bk → Prop) : vcF Try.prog cfgN (ctOf []) (lpOf []) 34 [.str s] [] K = (
  br (ltI 64 (lenS s)) (
    K (V.str []) []) (
    K (V.str s) [])) := by kernel_rfl

theorem rmod_vc (m : Int) (K : V → List Bk → Prop) : vcF Try.prog cfgN (ctOf []) (lpOf []) 65 [.int .i64 m] [] K = (
  br (ltI m 0) (
    K (V.bool false) []) (
    br (leI 4294967296 m) (
      K (V.bool false) []) (
      br (eqI (subI IntKind.i64 m (m.tmod 512)) 0) (
        K (V.bool true) []) (
        br (eqI (subI IntKind.i64 m (m.tmod 512)) 2147483648) (
          K (V.bool true) []) (
          br (eqI (subI IntKind.i64 m (m.tmod 512)) 1073741824) (
            K (V.bool true) []) (
            br (eqI (subI IntKind.i64 m (m.tmod 512)) 536870912) (
              K (V.bool true) []) (
              K (V.bool (eqI (subI IntKind.i64 m (m.tmod 512)) 1610612736)) []))))))) := by kernel_rfl

theorem risd_vc (m : Int) (K : V → List Bk → Prop) : vcF Try.prog cfgN (ctOf []) (lpOf []) 43 [.int .i64 m] [] K = (
  K (V.bool (leI 2147483648 m)) []) := by kernel_rfl

theorem rclk_vc (m : Int) (K : V → List Bk → Prop) : vcF Try.prog cfgN (ctOf []) (lpOf []) 37 [.int .i64 m] [] K = (
  K (V.int IntKind.i64 (minI (maxI m 0) 1099511627776)) []) := by kernel_rfl

theorem rsho_vc (s : List UInt8) (K : V → List Bk → Prop) : vcF Try.prog cfgN (ctOf []) (lpOf []) 36 [.str s] [] K = (
  br (ltI 64 (lenS s)) (
    K (V.str []) []) (
    K (V.str s) [])) := by kernel_rfl

theorem snd_vc (x : Node) (K : V → List Bk → Prop) : vcF Try.prog cfgN (ctOf [(64, intCon validB), (35, clockCon), (39, intCon dirB)]) (lpOf []) 38 [.agg x.v] [] K = (
  (((x.5 : Int) ≤ 9223372036854775807)) ∧ (
  br (notB (validB x.5)) (
    K (V.bool false) []) (
    br (ltI x.3 0) (
      K (V.bool false) []) (
      br (ltI 2147483647 x.3) (
        K (V.bool false) []) (
        br (notB (eqI x.9 (clockF x.9))) (
          K (V.bool false) []) (
          br (notB (eqI x.10 (clockF x.10))) (
            K (V.bool false) []) (
            br (ltI 64 (maxI (maxI (lenS x.6) (lenS x.7)) (lenS x.8))) (
              K (V.bool false) []) (
              br (ltI 65536 (lenS x.11)) (
                K (V.bool false) []) (
                (((x.5 : Int) ≤ 9223372036854775807)) ∧ (
                br (notB (dirB x.5)) (
                  K (V.bool true) []) (
                  K (V.bool (eqS x.11 [])) []))))))))))) := by kernel_rfl

theorem rsnd_vc (x : Node) (K : V → List Bk → Prop) : vcF Try.prog cfgN (ctOf [(65, intCon validB), (43, intCon isDirB)]) (lpOf []) 41 [.agg x.v] [] K = (
  (((x.5 : Int) ≤ 9223372036854775807)) ∧ (
  br (notB (validB x.5)) (
    K (V.bool false) []) (
    br (ltI x.3 0) (
      K (V.bool false) []) (
      br (ltI 2147483647 x.3) (
        K (V.bool false) []) (
        br (ltI x.9 0) (
          K (V.bool false) []) (
          br (ltI 1099511627776 x.9) (
            K (V.bool false) []) (
            br (ltI x.10 0) (
              K (V.bool false) []) (
              br (ltI 1099511627776 x.10) (
                K (V.bool false) []) (
                br (ltI 64 (lenS x.6)) (
                  K (V.bool false) []) (
                  br (ltI 64 (lenS x.7)) (
                    K (V.bool false) []) (
                    br (ltI 64 (lenS x.8)) (
                      K (V.bool false) []) (
                      br (ltI 65536 (lenS x.11)) (
                        K (V.bool false) []) (
                        (((x.5 : Int) ≤ 9223372036854775807)) ∧ (
                        br (notB (isDirB x.5)) (
                          K (V.bool true) []) (
                          K (V.bool (eqS x.11 [])) []))))))))))))))) := by kernel_rfl

theorem pv_vc (s : List UInt8) (I : pvC → pvX → pvX → Nat → Prop) (K : V → List Bk → Prop) : vcF Try.prog cfgN (ctOf []) (lpOf [(4, pvL I)]) 40 [.str s] [] K = (
  br (eqS s []) (
    K (V.bool false) []) (
    br (eqS s [46]) (
      K (V.bool false) []) (
      br (eqS s [46, 46]) (
        K (V.bool false) []) (
        br (ltI 64 (lenS s)) (
          K (V.bool false) []) (
          (∃ m3 : Nat, (((m3 : Nat) < 18446744073709551616)) ∧ (
          I (pvC.mk s (lenS s)) (pvX.mk 0) (pvX.mk 0) m3)) ∧ (
          ∀ x3 : (pvL I).X, ∀ m4 : Nat, (I (pvC.mk s (lenS s)) (pvX.mk 0) x3 m4) → (
          br (ltI x3.1 (lenS s)) (
            need (andB (leI 0 x3.1) (ltI x3.1 (lenS s))) (
            br (ltI (atS s x3.1) 33) (
              K (V.bool false) []) (
              need (andB (leI 0 x3.1) (ltI x3.1 (lenS s))) (
              br (ltI 126 (atS s x3.1)) (
                K (V.bool false) []) (
                need (andB (leI 0 x3.1) (ltI x3.1 (lenS s))) (
                br (eqI (atS s x3.1) 47) (
                  K (V.bool false) []) (
                  ((pvC.mk s (lenS s) : (pvL I).C) = pvC.mk s (lenS s)) ∧ (
                  ∃ m'5 : Nat, (((m'5 : Nat) < m4)) ∧ (
                  I (pvC.mk s (lenS s)) (pvX.mk 0) (pvX.mk (addI IntKind.i64 x3.1 1)) m'5))))))))) (
            K (V.bool true) [])))))))) := by kernel_rfl

theorem rv_vc (s : List UInt8) (I : rvC → rvX → rvX → Nat → Prop) (K : V → List Bk → Prop) : vcF Try.prog cfgN (ctOf []) (lpOf [(2, rvL I)]) 42 [.str s] [] K = (
  (∃ m3 : Nat, (((m3 : Nat) < 18446744073709551616)) ∧ (
  I (rvC.mk s) (rvX.mk 0) (rvX.mk 0) m3)) ∧ (
  ∀ x3 : (rvL I).X, ∀ m4 : Nat, (I (rvC.mk s) (rvX.mk 0) x3 m4) → (
  br (ltI x3.1 (lenS s)) (
    need (andB (leI 0 x3.1) (ltI x3.1 (lenS s))) (
    br (ltI (atS s x3.1) 33) (
      K (V.bool false) []) (
      need (andB (leI 0 x3.1) (ltI x3.1 (lenS s))) (
      br (ltI 126 (atS s x3.1)) (
        K (V.bool false) []) (
        need (andB (leI 0 x3.1) (ltI x3.1 (lenS s))) (
        br (eqI (atS s x3.1) 47) (
          K (V.bool false) []) (
          ((rvC.mk s : (rvL I).C) = rvC.mk s) ∧ (
          ∃ m'5 : Nat, (((m'5 : Nat) < m4)) ∧ (
          I (rvC.mk s) (rvX.mk 0) (rvX.mk (addI IntKind.i64 x3.1 1)) m'5))))))))) (
    br (leI 1 (lenS s)) (
      br (leI (lenS s) 64) (
        br (notB (eqS s [46])) (
          K (V.bool (notB (eqS s [46, 46]))) []) (
          K (V.bool false) [])) (
        K (V.bool false) [])) (
      K (V.bool false) []))))) := by kernel_rfl

end Go.Proofs.Ytepehbbagbfmcaa
namespace Go.Proofs.Ytepehbbagbfmcaa
open Go.RowKit
set_option maxRecDepth 100000
set_option linter.unusedVariables false
set_option linter.unusedSimpArgs false
theorem dir_con {n : Nat} (hn : 1 ≤ n) : ConOk (evalF Try.prog cfgN n) 39 (intCon dirB) := by
  intro vs bs K h
  unfold intCon at h
  split at h
  · rename_i m
    obtain ⟨hm, hK⟩ := h
    refine run_of (lp := lpOf []) hn (fun k _ => noCt_ok _) ?_
    rw [dir_vc]
    have e : ∀ {b'}, b' = dirB m → K (.bool b') [] := fun q => by rw [q]; exact hK
    refine br_iff.2 ⟨fun g => e ?_, fun g => e ?_⟩ <;> simp only [br_iff, need_iff, andB_t, andB_f, orB_t, orB_f, notB_t, notB_f, leI_t, leI_f, ltI_t, ltI_f, eqI_t, eqI_f, leN_t, leN_f, eqN_t, eqN_f, eqS_t, eqS_f, eqB_t, eqB_f, catOk_t, leC_t] at g
    · rw [quoI_i64 g hm (by omega), tmod_pos (by omega)]
      simp [eqI, dirB, g]
    · simp only [dirB]
      exact (decide_eq_false (fun q => by omega)).symm
  · exact h.elim
theorem app_con {n : Nat} (hn : 1 ≤ n) : ConOk (evalF Try.prog cfgN n) 48 (intCon appB) := by
  intro vs bs K h
  unfold intCon at h
  split at h
  · rename_i m
    obtain ⟨hm, hK⟩ := h
    refine run_of (lp := lpOf []) hn (fun k _ => noCt_ok _) ?_
    rw [app_vc]
    have e : ∀ {b'}, b' = appB m → K (.bool b') [] := fun q => by rw [q]; exact hK
    refine br_iff.2 ⟨fun g => e ?_, fun g => e ?_⟩ <;> simp only [br_iff, need_iff, andB_t, andB_f, orB_t, orB_f, notB_t, notB_f, leI_t, leI_f, ltI_t, ltI_f, eqI_t, eqI_f, leN_t, leN_f, eqN_t, eqN_f, eqS_t, eqS_f, eqB_t, eqB_f, catOk_t, leC_t] at g
    · rw [quoI_i64 g hm (by omega), tmod_pos (by omega)]
      simp [eqI, appB, g]
    · simp only [appB]
      exact (decide_eq_false (fun q => by omega)).symm
  · exact h.elim
theorem val_con {n : Nat} (hn : 1 ≤ n) : ConOk (evalF Try.prog cfgN n) 64 (intCon validB) := by
  intro vs bs K h
  unfold intCon at h
  split at h
  · rename_i m
    obtain ⟨hm, hK⟩ := h
    refine run_of (lp := lpOf []) hn (fun k _ => noCt_ok _) ?_
    rw [val_vc]
    have e : ∀ {b'}, b' = validB m → K (.bool b') [] := fun q => by rw [q]; exact hK
    refine br_iff.2 ⟨fun g => e ?_, fun g => ?_⟩ <;> simp only [br_iff, need_iff, andB_t, andB_f, orB_t, orB_f, notB_t, notB_f, leI_t, leI_f, ltI_t, ltI_f, eqI_t, eqI_f, leN_t, leN_f, eqN_t, eqN_f, eqS_t, eqS_f, eqB_t, eqB_f, catOk_t, leC_t] at g
    · simp only [validB]
      exact (decide_eq_false (fun q => by omega)).symm
    · rw [tmod_pos g, subI_i64 (by omega) (by omega)]
      repeat' refine br_iff.2 ⟨fun _ => ?_, fun _ => ?_⟩
      all_goals
        refine e ?_
        simp only [br_iff, need_iff, andB_t, andB_f, orB_t, orB_f, notB_t, notB_f, leI_t, leI_f, ltI_t, ltI_f, eqI_t, eqI_f, leN_t, leN_f, eqN_t, eqN_f, eqS_t, eqS_f, eqB_t, eqB_f, catOk_t, leC_t] at *
        simp only [validB]
        first | exact (decide_eq_true (by omega)).symm | exact (decide_eq_false (by omega)).symm
  · exact h.elim
theorem rmod_con {n : Nat} (hn : 1 ≤ n) : ConOk (evalF Try.prog cfgN n) 65 (intCon validB) := by
  intro vs bs K h
  unfold intCon at h
  split at h
  · rename_i m
    obtain ⟨hm, hK⟩ := h
    refine run_of (lp := lpOf []) hn (fun k _ => noCt_ok _) ?_
    rw [rmod_vc]
    have e : ∀ {b'}, b' = validB m → K (.bool b') [] := fun q => by rw [q]; exact hK
    refine br_iff.2 ⟨fun g => e ?_, fun g => ?_⟩ <;> simp only [br_iff, need_iff, andB_t, andB_f, orB_t, orB_f, notB_t, notB_f, leI_t, leI_f, ltI_t, ltI_f, eqI_t, eqI_f, leN_t, leN_f, eqN_t, eqN_f, eqS_t, eqS_f, eqB_t, eqB_f, catOk_t, leC_t] at g
    · simp only [validB]
      exact (decide_eq_false (fun q => by omega)).symm
    · rw [tmod_pos g, subI_i64 (by omega) (by omega)]
      repeat' refine br_iff.2 ⟨fun _ => ?_, fun _ => ?_⟩
      all_goals
        refine e ?_
        simp only [br_iff, need_iff, andB_t, andB_f, orB_t, orB_f, notB_t, notB_f, leI_t, leI_f, ltI_t, ltI_f, eqI_t, eqI_f, leN_t, leN_f, eqN_t, eqN_f, eqS_t, eqS_f, eqB_t, eqB_f, catOk_t, leC_t] at *
        simp only [validB]
        first | exact (decide_eq_true (by omega)).symm | exact (decide_eq_false (by omega)).symm | skip
      rw [Bool.eq_iff_iff]
      simp only [br_iff, need_iff, andB_t, andB_f, orB_t, orB_f, notB_t, notB_f, leI_t, leI_f, ltI_t, ltI_f, eqI_t, eqI_f, leN_t, leN_f, eqN_t, eqN_f, eqS_t, eqS_f, eqB_t, eqB_f, catOk_t, leC_t, decide_eq_true_eq]
      omega
  · exact h.elim
theorem risd_con {n : Nat} (hn : 1 ≤ n) : ConOk (evalF Try.prog cfgN n) 43 (intCon isDirB) := by
  intro vs bs K h
  unfold intCon at h
  split at h
  · obtain ⟨hm, hK⟩ := h
    refine run_of (lp := lpOf []) hn (fun k _ => noCt_ok _) ?_
    rw [risd_vc]
    exact hK
  · exact h.elim
theorem clk_con {n : Nat} (hn : 1 ≤ n) : ConOk (evalF Try.prog cfgN n) 35 clockCon := by
  intro vs bs K h
  unfold clockCon at h
  split at h
  · refine run_of (lp := lpOf []) hn (fun k _ => noCt_ok _) ?_
    rw [clk_vc]
    exact h
  · exact h.elim
theorem rclk_con {n : Nat} (hn : 1 ≤ n) : ConOk (evalF Try.prog cfgN n) 37 clockCon := by
  intro vs bs K h
  unfold clockCon at h
  split at h
  · refine run_of (lp := lpOf []) hn (fun k _ => noCt_ok _) ?_
    rw [rclk_vc]
    exact h
  · exact h.elim
theorem sho_con {n : Nat} (hn : 1 ≤ n) : ConOk (evalF Try.prog cfgN n) 34 shortCon := by
  intro vs bs K h
  unfold shortCon at h
  split at h
  · refine run_of (lp := lpOf []) hn (fun k _ => noCt_ok _) ?_
    rw [sho_vc]
    unfold shortF at h
    refine br_iff.2 ⟨fun g => ?_, fun g => ?_⟩ <;> simp only [br_iff, need_iff, andB_t, andB_f, orB_t, orB_f, notB_t, notB_f, leI_t, leI_f, ltI_t, ltI_f, eqI_t, eqI_f, leN_t, leN_f, eqN_t, eqN_f, eqS_t, eqS_f, eqB_t, eqB_f, catOk_t, leC_t, lenS] at g
    · rw [if_neg (by omega)] at h; exact h
    · rw [if_pos (by omega)] at h; exact h
  · exact h.elim
theorem rsho_con {n : Nat} (hn : 1 ≤ n) : ConOk (evalF Try.prog cfgN n) 36 shortCon := by
  intro vs bs K h
  unfold shortCon at h
  split at h
  · refine run_of (lp := lpOf []) hn (fun k _ => noCt_ok _) ?_
    rw [rsho_vc]
    unfold shortF at h
    refine br_iff.2 ⟨fun g => ?_, fun g => ?_⟩ <;> simp only [br_iff, need_iff, andB_t, andB_f, orB_t, orB_f, notB_t, notB_f, leI_t, leI_f, ltI_t, ltI_f, eqI_t, eqI_f, leN_t, leN_f, eqN_t, eqN_f, eqS_t, eqS_f, eqB_t, eqB_f, catOk_t, leC_t, lenS] at g
    · rw [if_neg (by omega)] at h; exact h
    · rw [if_pos (by omega)] at h; exact h
  · exact h.elim
theorem clock_fix {a : Int} : (a = clockF a) ↔ 0 ≤ a ∧ a ≤ 1099511627776 := by unfold clockF; omega
theorem clock_ne {a : Int} : (a ≠ clockF a) ↔ ¬ (0 ≤ a ∧ a ≤ 1099511627776) := not_congr clock_fix
theorem valid_dir {m : Int} (h : validB m = true) : isDirB m = dirB m := by
  simp only [validB, decide_eq_true_eq] at h
  rw [Bool.eq_iff_iff]
  simp only [isDirB, dirB, decide_eq_true_eq]
  omega
theorem snd_con {n : Nat} (hn : 2 ≤ n) : ConOk (evalF Try.prog cfgN n) 38 soundCon := by
  intro vs bs K h
  unfold soundCon at h
  split at h
  · obtain ⟨x, rfl, hm, hK⟩ := h
    refine run_of (lp := lpOf []) (ct := ctOf [(64, intCon validB), (35, clockCon), (39, intCon dirB)]) (by omega) (fun k _ => ctOf_ok (ctOf_cons (val_con (by omega)) (ctOf_cons (clk_con (by omega)) (ctOf_cons (dir_con (by omega)) (ctOf_nil _))))) ?_
    rw [snd_vc]
    have e : ∀ {b'}, b' = soundB x → K (.bool b') [] := fun q => by rw [q]; exact hK
    refine ⟨hm, ?_⟩
    repeat' first | refine br_iff.2 ⟨fun _ => ?_, fun _ => ?_⟩ | refine And.intro hm ?_ | fail
    all_goals
      refine e ?_
      simp only [br_iff, need_iff, andB_t, andB_f, orB_t, orB_f, notB_t, notB_f, leI_t, leI_f, ltI_t, ltI_f, eqI_t, eqI_f, leN_t, leN_f, eqN_t, eqN_f, eqS_t, eqS_f, eqB_t, eqB_f, catOk_t, leC_t, clock_fix, clock_ne, lenS, minI, maxI] at *
      rw [Bool.eq_iff_iff]
      simp only [soundB, br_iff, need_iff, andB_t, andB_f, orB_t, orB_f, notB_t, notB_f, leI_t, leI_f, ltI_t, ltI_f, eqI_t, eqI_f, leN_t, leN_f, eqN_t, eqN_f, eqS_t, eqS_f, eqB_t, eqB_f, catOk_t, leC_t, decide_eq_true_eq, *]
      try simp
      first | done | omega | exact ⟨fun q => ⟨by omega, by omega, by omega, by omega, q⟩, fun q => q.2.2.2.2⟩
  · exact h.elim
theorem rsnd_con {n : Nat} (hn : 2 ≤ n) : ConOk (evalF Try.prog cfgN n) 41 soundCon := by
  intro vs bs K h
  unfold soundCon at h
  split at h
  · obtain ⟨x, rfl, hm, hK⟩ := h
    refine run_of (lp := lpOf []) (ct := ctOf [(65, intCon validB), (43, intCon isDirB)]) (by omega) (fun k _ => ctOf_ok (ctOf_cons (rmod_con (by omega)) (ctOf_cons (risd_con (by omega)) (ctOf_nil _)))) ?_
    rw [rsnd_vc]
    have e : ∀ {b'}, b' = soundB x → K (.bool b') [] := fun q => by rw [q]; exact hK
    refine ⟨hm, br_iff.2 ⟨fun g => e ?_, fun g => ?_⟩⟩
    · simp only [br_iff, need_iff, andB_t, andB_f, orB_t, orB_f, notB_t, notB_f, leI_t, leI_f, ltI_t, ltI_f, eqI_t, eqI_f, leN_t, leN_f, eqN_t, eqN_f, eqS_t, eqS_f, eqB_t, eqB_f, catOk_t, leC_t] at g
      simp [soundB, g]
    · simp only [br_iff, need_iff, andB_t, andB_f, orB_t, orB_f, notB_t, notB_f, leI_t, leI_f, ltI_t, ltI_f, eqI_t, eqI_f, leN_t, leN_f, eqN_t, eqN_f, eqS_t, eqS_f, eqB_t, eqB_f, catOk_t, leC_t] at g
      have hd := valid_dir g
      rw [hd]
      repeat' first | refine br_iff.2 ⟨fun _ => ?_, fun _ => ?_⟩ | refine And.intro hm ?_ | fail
      all_goals
        refine e ?_
        simp only [br_iff, need_iff, andB_t, andB_f, orB_t, orB_f, notB_t, notB_f, leI_t, leI_f, ltI_t, ltI_f, eqI_t, eqI_f, leN_t, leN_f, eqN_t, eqN_f, eqS_t, eqS_f, eqB_t, eqB_f, catOk_t, leC_t, lenS, minI, maxI] at *
        rw [Bool.eq_iff_iff]
        simp only [soundB, br_iff, need_iff, andB_t, andB_f, orB_t, orB_f, notB_t, notB_f, leI_t, leI_f, ltI_t, ltI_f, eqI_t, eqI_f, leN_t, leN_f, eqN_t, eqN_f, eqS_t, eqS_f, eqB_t, eqB_f, catOk_t, leC_t, decide_eq_true_eq, *]
        try simp
        first | done | omega | exact ⟨fun q => ⟨by omega, by omega, by omega, by omega, q⟩, fun q => q.2.2.2.2⟩
  · exact h.elim
def pfxOk (s : List UInt8) (k : Nat) : Prop := (s.take k).all nameC = true
theorem pfx_succ {s : List UInt8} {k : Nat} (h : k < s.length) (hp : pfxOk s k) (hc : nameC s[k] = true) : pfxOk s (k + 1) := by
  unfold pfxOk at hp ⊢
  rw [List.take_succ_eq_append_getElem h, List.all_append, hp]
  simp [hc]
theorem pfx_not {s : List UInt8} {k : Nat} (h : k < s.length) (hc : nameC s[k] = false) : s.all nameC = false := by
  rw [List.all_eq_false]
  exact ⟨s[k], List.getElem_mem h, by simp [hc]⟩
theorem nameC_t {c : UInt8} : (nameC c = true) = (33 ≤ c.toNat ∧ c.toNat ≤ 126 ∧ c.toNat ≠ 47) := by simp [nameC]
theorem nameC_f {c : UInt8} : (nameC c = false) = ¬ (33 ≤ c.toNat ∧ c.toNat ≤ 126 ∧ c.toNat ≠ 47) := by rw [← Bool.not_eq_true, nameC_t]
theorem pv_con {n : Nat} (hn : 1 ≤ n) : ConOk (evalF Try.prog cfgN n) 40 nameCon := by
  intro vs bs K h
  unfold nameCon at h
  split at h
  · rename_i s
    obtain ⟨hl, hK⟩ := h
    refine run_of (lp := lpOf [(4, pvL fun _ _ x m => ∃ k : Nat, x.i = (k : Int) ∧ k + m = s.length ∧ pfxOk s k)]) hn (fun k _ => noCt_ok _) ?_
    rw [pv_vc]
    have e : ∀ {b'}, b' = nameB s → K (.bool b') [] := fun q => by rw [q]; exact hK
    refine br_iff.2 ⟨fun g => e ?_, fun g1 => br_iff.2 ⟨fun g => e ?_, fun g2 => br_iff.2 ⟨fun g => e ?_, fun g3 => br_iff.2 ⟨fun g => e ?_, fun g4 => ?_⟩⟩⟩⟩
    · simp only [br_iff, need_iff, andB_t, andB_f, orB_t, orB_f, notB_t, notB_f, leI_t, leI_f, ltI_t, ltI_f, eqI_t, eqI_f, leN_t, leN_f, eqN_t, eqN_f, eqS_t, eqS_f, eqB_t, eqB_f, catOk_t, leC_t] at g; simp [nameB, g]
    · simp only [br_iff, need_iff, andB_t, andB_f, orB_t, orB_f, notB_t, notB_f, leI_t, leI_f, ltI_t, ltI_f, eqI_t, eqI_f, leN_t, leN_f, eqN_t, eqN_f, eqS_t, eqS_f, eqB_t, eqB_f, catOk_t, leC_t] at g; simp [nameB, g]
    · simp only [br_iff, need_iff, andB_t, andB_f, orB_t, orB_f, notB_t, notB_f, leI_t, leI_f, ltI_t, ltI_f, eqI_t, eqI_f, leN_t, leN_f, eqN_t, eqN_f, eqS_t, eqS_f, eqB_t, eqB_f, catOk_t, leC_t] at g; simp [nameB, g]
    · simp only [br_iff, need_iff, andB_t, andB_f, orB_t, orB_f, notB_t, notB_f, leI_t, leI_f, ltI_t, ltI_f, eqI_t, eqI_f, leN_t, leN_f, eqN_t, eqN_f, eqS_t, eqS_f, eqB_t, eqB_f, catOk_t, leC_t, lenS] at g
      have : ¬ s.length ≤ 64 := by omega
      simp [nameB, this]
    · simp only [br_iff, need_iff, andB_t, andB_f, orB_t, orB_f, notB_t, notB_f, leI_t, leI_f, ltI_t, ltI_f, eqI_t, eqI_f, leN_t, leN_f, eqN_t, eqN_f, eqS_t, eqS_f, eqB_t, eqB_f, catOk_t, leC_t, lenS] at g1 g2 g3 g4
      refine ⟨⟨s.length, by omega, 0, rfl, by omega, by simp [pfxOk]⟩, ?_⟩
      rintro ⟨i⟩ m ⟨k, hi, hk, hp⟩
      dsimp only at hi ⊢
      subst hi
      refine br_iff.2 ⟨fun g => ?_, fun g => e ?_⟩
      · have hlt : k < s.length := by simp only [br_iff, need_iff, andB_t, andB_f, orB_t, orB_f, notB_t, notB_f, leI_t, leI_f, ltI_t, ltI_f, eqI_t, eqI_f, leN_t, leN_f, eqN_t, eqN_f, eqS_t, eqS_f, eqB_t, eqB_f, catOk_t, leC_t, lenS] at g; omega
        have hb : andB (leI 0 (k : Int)) (ltI (k : Int) (lenS s)) = true := by simp only [br_iff, need_iff, andB_t, andB_f, orB_t, orB_f, notB_t, notB_f, leI_t, leI_f, ltI_t, ltI_f, eqI_t, eqI_f, leN_t, leN_f, eqN_t, eqN_f, eqS_t, eqS_f, eqB_t, eqB_f, catOk_t, leC_t, lenS]; omega
        rw [atS_at hlt]
        refine need_iff.2 ⟨hb, br_iff.2 ⟨fun g5 => e ?_, fun g5 => need_iff.2 ⟨hb, br_iff.2 ⟨fun g6 => e ?_, fun g6 => need_iff.2 ⟨hb, br_iff.2 ⟨fun g7 => e ?_, fun g7 => ⟨rfl, m - 1, by omega, k + 1, ?_, by omega, ?_⟩⟩⟩⟩⟩⟩⟩
        · simp only [br_iff, need_iff, andB_t, andB_f, orB_t, orB_f, notB_t, notB_f, leI_t, leI_f, ltI_t, ltI_f, eqI_t, eqI_f, leN_t, leN_f, eqN_t, eqN_f, eqS_t, eqS_f, eqB_t, eqB_f, catOk_t, leC_t] at g5
          simp [nameB, pfx_not hlt (by rw [nameC_f]; omega)]
        · simp only [br_iff, need_iff, andB_t, andB_f, orB_t, orB_f, notB_t, notB_f, leI_t, leI_f, ltI_t, ltI_f, eqI_t, eqI_f, leN_t, leN_f, eqN_t, eqN_f, eqS_t, eqS_f, eqB_t, eqB_f, catOk_t, leC_t] at g6
          simp [nameB, pfx_not hlt (by rw [nameC_f]; omega)]
        · simp only [br_iff, need_iff, andB_t, andB_f, orB_t, orB_f, notB_t, notB_f, leI_t, leI_f, ltI_t, ltI_f, eqI_t, eqI_f, leN_t, leN_f, eqN_t, eqN_f, eqS_t, eqS_f, eqB_t, eqB_f, catOk_t, leC_t] at g7
          simp [nameB, pfx_not hlt (by rw [nameC_f]; omega)]
        · rw [addI_i64 (by omega) (by omega)]; omega
        · simp only [br_iff, need_iff, andB_t, andB_f, orB_t, orB_f, notB_t, notB_f, leI_t, leI_f, ltI_t, ltI_f, eqI_t, eqI_f, leN_t, leN_f, eqN_t, eqN_f, eqS_t, eqS_f, eqB_t, eqB_f, catOk_t, leC_t] at g5 g6 g7
          exact pfx_succ hlt hp (by rw [nameC_t]; omega)
      · have : k = s.length := by simp only [br_iff, need_iff, andB_t, andB_f, orB_t, orB_f, notB_t, notB_f, leI_t, leI_f, ltI_t, ltI_f, eqI_t, eqI_f, leN_t, leN_f, eqN_t, eqN_f, eqS_t, eqS_f, eqB_t, eqB_f, catOk_t, leC_t, lenS] at g; omega
        subst this
        unfold pfxOk at hp
        rw [List.take_length] at hp
        have h4 : s.length ≤ 64 := by omega
        simp [nameB, hp, g1, g2, g3, h4]
  · exact h.elim
theorem rv_con {n : Nat} (hn : 1 ≤ n) : ConOk (evalF Try.prog cfgN n) 42 nameCon := by
  intro vs bs K h
  unfold nameCon at h
  split at h
  · rename_i s
    obtain ⟨hl, hK⟩ := h
    refine run_of (lp := lpOf [(2, rvL fun _ _ x m => ∃ k : Nat, x.i = (k : Int) ∧ k + m = s.length ∧ pfxOk s k)]) hn (fun k _ => noCt_ok _) ?_
    rw [rv_vc]
    have e : ∀ {b'}, b' = nameB s → K (.bool b') [] := fun q => by rw [q]; exact hK
    refine ⟨⟨s.length, by omega, 0, rfl, by omega, by simp [pfxOk]⟩, ?_⟩
    rintro ⟨i⟩ m ⟨k, hi, hk, hp⟩
    dsimp only at hi ⊢
    subst hi
    refine br_iff.2 ⟨fun g => ?_, fun g => ?_⟩
    · have hlt : k < s.length := by simp only [br_iff, need_iff, andB_t, andB_f, orB_t, orB_f, notB_t, notB_f, leI_t, leI_f, ltI_t, ltI_f, eqI_t, eqI_f, leN_t, leN_f, eqN_t, eqN_f, eqS_t, eqS_f, eqB_t, eqB_f, catOk_t, leC_t, lenS] at g; omega
      have hb : andB (leI 0 (k : Int)) (ltI (k : Int) (lenS s)) = true := by simp only [br_iff, need_iff, andB_t, andB_f, orB_t, orB_f, notB_t, notB_f, leI_t, leI_f, ltI_t, ltI_f, eqI_t, eqI_f, leN_t, leN_f, eqN_t, eqN_f, eqS_t, eqS_f, eqB_t, eqB_f, catOk_t, leC_t, lenS]; omega
      rw [atS_at hlt]
      refine need_iff.2 ⟨hb, br_iff.2 ⟨fun g5 => e ?_, fun g5 => need_iff.2 ⟨hb, br_iff.2 ⟨fun g6 => e ?_, fun g6 => need_iff.2 ⟨hb, br_iff.2 ⟨fun g7 => e ?_, fun g7 => ⟨rfl, m - 1, by omega, k + 1, ?_, by omega, ?_⟩⟩⟩⟩⟩⟩⟩
      · simp only [br_iff, need_iff, andB_t, andB_f, orB_t, orB_f, notB_t, notB_f, leI_t, leI_f, ltI_t, ltI_f, eqI_t, eqI_f, leN_t, leN_f, eqN_t, eqN_f, eqS_t, eqS_f, eqB_t, eqB_f, catOk_t, leC_t] at g5
        simp [nameB, pfx_not hlt (by rw [nameC_f]; omega)]
      · simp only [br_iff, need_iff, andB_t, andB_f, orB_t, orB_f, notB_t, notB_f, leI_t, leI_f, ltI_t, ltI_f, eqI_t, eqI_f, leN_t, leN_f, eqN_t, eqN_f, eqS_t, eqS_f, eqB_t, eqB_f, catOk_t, leC_t] at g6
        simp [nameB, pfx_not hlt (by rw [nameC_f]; omega)]
      · simp only [br_iff, need_iff, andB_t, andB_f, orB_t, orB_f, notB_t, notB_f, leI_t, leI_f, ltI_t, ltI_f, eqI_t, eqI_f, leN_t, leN_f, eqN_t, eqN_f, eqS_t, eqS_f, eqB_t, eqB_f, catOk_t, leC_t] at g7
        simp [nameB, pfx_not hlt (by rw [nameC_f]; omega)]
      · rw [addI_i64 (by omega) (by omega)]; omega
      · simp only [br_iff, need_iff, andB_t, andB_f, orB_t, orB_f, notB_t, notB_f, leI_t, leI_f, ltI_t, ltI_f, eqI_t, eqI_f, leN_t, leN_f, eqN_t, eqN_f, eqS_t, eqS_f, eqB_t, eqB_f, catOk_t, leC_t] at g5 g6 g7
        exact pfx_succ hlt hp (by rw [nameC_t]; omega)
    · have : k = s.length := by simp only [br_iff, need_iff, andB_t, andB_f, orB_t, orB_f, notB_t, notB_f, leI_t, leI_f, ltI_t, ltI_f, eqI_t, eqI_f, leN_t, leN_f, eqN_t, eqN_f, eqS_t, eqS_f, eqB_t, eqB_f, catOk_t, leC_t, lenS] at g; omega
      subst this
      unfold pfxOk at hp
      rw [List.take_length] at hp
      refine br_iff.2 ⟨fun g1 => br_iff.2 ⟨fun g2 => br_iff.2 ⟨fun g3 => e ?_, fun g3 => e ?_⟩, fun g2 => e ?_⟩, fun g1 => e ?_⟩ <;> simp only [br_iff, need_iff, andB_t, andB_f, orB_t, orB_f, notB_t, notB_f, leI_t, leI_f, ltI_t, ltI_f, eqI_t, eqI_f, leN_t, leN_f, eqN_t, eqN_f, eqS_t, eqS_f, eqB_t, eqB_f, catOk_t, leC_t, lenS] at *
      · have h1 : s ≠ [] := fun q => by subst q; simp at g1
        have h2 : s.length ≤ 64 := by omega
        rw [Bool.eq_iff_iff]
        simp [nameB, hp, g3, h1, h2, br_iff, need_iff, andB_t, andB_f, orB_t, orB_f, notB_t, notB_f, leI_t, leI_f, ltI_t, ltI_f, eqI_t, eqI_f, leN_t, leN_f, eqN_t, eqN_f, eqS_t, eqS_f, eqB_t, eqB_f, catOk_t, leC_t]
      · simp [nameB, g3]
      · have h2 : ¬ s.length ≤ 64 := by omega
        simp [nameB, h2]
      · have h1 : s = [] := List.eq_nil_of_length_eq_zero (by omega)
        simp [nameB, h1]
  · exact h.elim
end Go.Proofs.Ytepehbbagbfmcaa
