/- Leases: what their functions compute. -/
import Derived.Test.YthhpdnlfhofanaaGreatDoorPtBase
import Derived.Test.YthhpdnlfhofanaaGreatDoorEvF
namespace Go.Proofs.YthhpdnlfhofanaaGreatDoor
open Go.RowKit
set_option linter.unusedVariables false
set_option linter.unusedSimpArgs false
structure Lease where
  conn : Int
  id : Int
  kind : Int
  til : Int
  deriving Inhabited, DecidableEq
def Lease.v (x : Lease) : List V := [.int .i64 x.conn, .int .i64 x.id, .int .i64 x.kind, .int .i64 x.til]
def leaseV (l : List Lease) : List (List V) := l.map Lease.v
theorem leaseV_len (l : List Lease) : (leaseV l).length = l.length := by simp [leaseV]
theorem leaseV_row {l : List Lease} {i : Nat} {f : Lease} (h : l[i]? = some f) : rowAt (leaseV l) (i : Int) = f.v := by simp [rowAt, leaseV, List.getD, h]
theorem leaseV_ok {l : List Lease} {i : Nat} (h : i < l.length) : okRow (leaseV l) i 4 = true := by simp [okRow, leaseV, List.getElem?_eq_getElem h, Lease.v]
theorem leaseV_lenL (l : List Lease) : lenL (leaseV l) = (l.length : Int) := by simp [lenL, leaseV]
theorem leaseV_all (l : List Lease) : List.take l.length (leaseV l) = leaseV l := List.take_of_length_le (by simp [leaseV])
theorem leaseV_all1 (l : List Lease) (x : List V) : List.take (l.length + 1) (leaseV l ++ [x]) = leaseV l ++ [x] := List.take_of_length_le (by simp [leaseV])
theorem leaseV_add (l : List Lease) (f : Lease) : leaseV l ++ [f.v] = leaseV (l ++ [f]) := by simp [leaseV]
theorem leaseV_part {l : List Lease} {i : Nat} {f : Lease} (h : l[i]? = some f) (o n : Nat) : partAt (leaseV l) i o n = sub f.v o n := by simp [partAt, leaseV, h]
theorem leaseV_put {l : List Lease} {i : Nat} {f g : Lease} (h : l[i]? = some f) {o : Nat} {ys : List V} (e : put f.v o ys = some g.v) : putAt (leaseV l) i o ys = some (leaseV (l.set i g)) := by simp [putAt, leaseV, h, e]
theorem leaseV_snoc {l : List Lease} {j : Nat} {f : Lease} (h : l[j]? = some f) : leaseV (l.take j) ++ [f.v] = leaseV (l.take (j + 1)) := by
  have := (List.getElem?_eq_some_iff.1 h); obtain ⟨h1, rfl⟩ := this
  unfold leaseV; rw [List.take_succ_eq_append_getElem h1, List.map_append]; rfl
theorem leaseV_app (a b : List Lease) : leaseV a ++ leaseV b = leaseV (a ++ b) := by simp [leaseV]
theorem leaseV_take (a : List Lease) (n : Nat) : List.take n (leaseV a) = leaseV (a.take n) := by simp [leaseV]
theorem leaseV_drop (a : List Lease) (n : Nat) : List.drop n (leaseV a) = leaseV (a.drop n) := by simp [leaseV]
theorem leaseV_set (a : List Lease) (n : Nat) (f : Lease) : (leaseV a).set n f.v = leaseV (a.set n f) := by simp [leaseV]
theorem leaseV_head (a : List Lease) : headOkP 4 (leaseV a) = true := by cases a <;> rfl
theorem leaseV_get (a : List Lease) (i : Nat) : (leaseV a)[i]? = (a[i]?).map Lease.v := by simp [leaseV]
theorem Lease.eqv {x y : Lease} : x = y ↔ x.conn = y.conn ∧ x.id = y.id ∧ x.kind = y.kind ∧ x.til = y.til := by cases x; cases y; simp
theorem Lease.v_inj {x y : Lease} : x.v = y.v ↔ x = y := by
  cases x; cases y
  simp [Lease.v, and_assoc]
theorem leaseV_inj {a b : List Lease} : leaseV a = leaseV b ↔ a = b := List.map_inj_right fun _ _ h => Lease.v_inj.1 h
def leaseSh : Sh := .pair (.int .i64) (.pair (.int .i64) (.pair (.int .i64) (.pair (.int .i64) .unit)))
def Lease.fit (x : Lease) : Prop := (IntKind.i64.min ≤ x.conn ∧ x.conn ≤ IntKind.i64.max) ∧ (IntKind.i64.min ≤ x.id ∧ x.id ≤ IntKind.i64.max) ∧ (IntKind.i64.min ≤ x.kind ∧ x.kind ≤ IntKind.i64.max) ∧ (IntKind.i64.min ≤ x.til ∧ x.til ≤ IntKind.i64.max)
theorem Lease.fits {vs : List V} (h : Fits leaseSh vs) : ∃ x : Lease, vs = x.v ∧ x.fit := by
  unfold leaseSh at h
  obtain ⟨u1, w1, rfl, a1, b1⟩ := h
  obtain ⟨x1, rfl, fx1⟩ := a1
  obtain ⟨u2, w2, rfl, a2, b2⟩ := b1
  obtain ⟨x2, rfl, fx2⟩ := a2
  obtain ⟨u3, w3, rfl, a3, b3⟩ := b2
  obtain ⟨x3, rfl, fx3⟩ := a3
  obtain ⟨u4, w4, rfl, a4, b4⟩ := b3
  obtain ⟨x4, rfl, fx4⟩ := a4
  obtain rfl : w4 = [] := b4
  exact ⟨⟨x1, x2, x3, x4⟩, rfl, ⟨fx1, fx2, fx3, fx4⟩⟩

def inI (n lo hi : Int) : Bool := decide (lo ≤ n) && decide (n ≤ hi)
def kOk (k : Int) : Bool := decide (k = 1) || decide (k = 2)
def okL (x : Lease) : Bool := inI x.id 1 1099511627776 && inI x.conn 1 1099511627776 && kOk x.kind && inI x.til 0 1099512676352
def ltL (a b : Lease) : Bool := decide (a.id < b.id) || (decide (a.id = b.id) && decide (a.conn < b.conn))
def ordF (a b : Lease) : Int := if a.id < b.id then -1 else if b.id < a.id then 1 else if a.conn < b.conn then -1 else if b.conn < a.conn then 1 else 0
def cfF (a b : Lease) : Bool := decide (a.id = b.id) && !decide (a.conn = b.conn) && (decide (a.kind = 2) || decide (b.kind = 2))
def vaF (conn id kind now : Int) (x : Lease) : Bool := decide (x.id = id) && decide (x.conn = conn) && decide (now < x.til) && (decide (kind = 1) || decide (x.kind = 2))
def blF (conn id kind now : Int) (x : Lease) : Bool := decide (x.id = id) && !decide (x.conn = conn) && decide (now < x.til) && (decide (kind = 2) || decide (x.kind = 2))
def exF (now : Int) (x : Lease) : Bool := decide (x.til ≤ now)
def sortedP (l : List Lease) : Prop := l.Pairwise fun a b => ltL a b = true
def cmpI (a b : Int) : Int := if a < b then -1 else if b < a then 1 else 0
/-- What is known when a list is valid. -/
def isRight (l : List Lease) (b : Bool) : Prop := b = true → (l.length ≤ 64 ∧ (∀ x ∈ l, okL x = true) ∧ sortedP l)
/-- The first place with a property. -/
def isIdx (p : Lease → Bool) (l : List Lease) (i : Int) : Prop := (i = -1 ∧ ∀ x ∈ l, p x = false) ∨ ∃ k : Nat, i = (k : Int) ∧ (∀ x ∈ l.take k, p x = false) ∧ ∃ x, l[k]? = some x ∧ p x = true
def isAny (p : Lease → Bool) (l : List Lease) (b : Bool) : Prop := b = l.any p
/-- The leases that have not expired. -/
def keepL (now : Int) (l : List Lease) : List Lease := l.filter fun x => !exF now x
/-- A row that begins with the leases that have not expired. -/
def isClean (l : List Lease) (now : Int) (ys : List (List V)) (k : Nat) : Prop := ∃ L : List Lease, ys = leaseV L ∧ L.length = l.length ∧ k ≤ L.length ∧ L.take k = keepL now l
/-- What a binary search finds. -/
def isFound (l : List Lease) (x : Lease) (i : Int) (b : Bool) : Prop := ∃ k : Nat, i = (k : Int) ∧ k ≤ l.length ∧ (b = true → ∃ y, l[k]? = some y ∧ y.id = x.id ∧ y.conn = x.conn) ∧ (b = false → ∀ y ∈ l, ¬ (y.id = x.id ∧ y.conn = x.conn))
/-- What a grant gives. -/
def isGrant (conn id kind term now : Int) (m : List Lease) (u e : Int) : Prop := e = 0 → (1 ≤ id ∧ id ≤ 1099511627776 ∧ 1 ≤ term ∧ term ≤ 1048576 ∧ 0 ≤ now ∧ now ≤ 1099511627776) ∧ u = now + term ∧ m.length ≤ 200 ∧ (⟨conn, id, kind, u⟩ : Lease) ∈ m ∧ ∀ y ∈ m, y.id = id → y.conn = conn → y = ⟨conn, id, kind, u⟩
end Go.Proofs.YthhpdnlfhofanaaGreatDoor
namespace Go.Proofs.YthhpdnlfhofanaaGreatDoor
open Go.RowKit
set_option maxRecDepth 100000
set_option linter.unusedVariables false
set_option linter.unusedSimpArgs false
def inCon : Con := fun vs bs K => match vs, bs with
  | [.int .i64 n, .int .i64 lo, .int .i64 hi], [] => K (.bool (inI n lo hi)) []
  | _, _ => False

def kiCon : Con := fun vs bs K => match vs, bs with
  | [.int .i64 k], [] => K (.bool (kOk k)) []
  | _, _ => False

def beCon : Con := fun vs bs K => match vs, bs with
  | [.agg [.int .i64 c1, .int .i64 i1, .int .i64 k1, .int .i64 u1], .agg [.int .i64 c2, .int .i64 i2, .int .i64 k2, .int .i64 u2]], [] => K (.bool (ltL ⟨c1, i1, k1, u1⟩ ⟨c2, i2, k2, u2⟩)) []
  | _, _ => False

def orCon : Con := fun vs bs K => match vs, bs with
  | [.agg [.int .i64 c1, .int .i64 i1, .int .i64 k1, .int .i64 u1], .agg [.int .i64 c2, .int .i64 i2, .int .i64 k2, .int .i64 u2]], [] => K (.int .i64 (ordF ⟨c1, i1, k1, u1⟩ ⟨c2, i2, k2, u2⟩)) []
  | _, _ => False

def cfCon : Con := fun vs bs K => match vs, bs with
  | [.agg [.int .i64 c1, .int .i64 i1, .int .i64 k1, .int .i64 u1], .agg [.int .i64 c2, .int .i64 i2, .int .i64 k2, .int .i64 u2]], [] => K (.bool (cfF ⟨c1, i1, k1, u1⟩ ⟨c2, i2, k2, u2⟩)) []
  | _, _ => False

def coCon : Con := fun vs bs K => match vs, bs with
  | [.int .i64 a, .int .i64 b], [] => K (.int .i64 (cmpI a b)) []
  | _, _ => False

theorem in_vc [MaxL] (n lo hi : Int) (K : V → List Bk → Prop) : vcF Tryz.prog cfgN (ctOf []) (lpOf []) 75 [.int .i64 n, .int .i64 lo, .int .i64 hi] [] K = (
  br (leI lo n) (
    K (V.bool (leI n hi)) []) (
    K (V.bool false) [])) := by kernel_rfl

theorem ki_vc [MaxL] (k : Int) (K : V → List Bk → Prop) : vcF Tryz.prog cfgN (ctOf []) (lpOf []) 76 [.int .i64 k] [] K = (
  br (eqI k 1) (
    K (V.bool true) []) (
    K (V.bool (eqI k 2)) [])) := by kernel_rfl

theorem wi_vc [MaxL] (n lo hi : Int) (K : V → List Bk → Prop) : vcF Tryz.prog cfgN (ctOf []) (lpOf []) 78 [.int .i64 n, .int .i64 lo, .int .i64 hi] [] K = (
  br (leI lo n) (
    K (V.bool (leI n hi)) []) (
    K (V.bool false) [])) := by kernel_rfl

theorem ik_vc [MaxL] (k : Int) (K : V → List Bk → Prop) : vcF Tryz.prog cfgN (ctOf []) (lpOf []) 79 [.int .i64 k] [] K = (
  br (eqI k 1) (
    K (V.bool true) []) (
    K (V.bool (eqI k 2)) [])) := by kernel_rfl

theorem be_vc [MaxL] (c1 i1 k1 u1 c2 i2 k2 u2 : Int) (K : V → List Bk → Prop) : vcF Tryz.prog cfgN (ctOf []) (lpOf []) 77 [.agg [.int .i64 c1, .int .i64 i1, .int .i64 k1, .int .i64 u1], .agg [.int .i64 c2, .int .i64 i2, .int .i64 k2, .int .i64 u2]] [] K = (
  br (ltI i1 i2) (
    K (V.bool true) []) (
    br (eqI i1 i2) (
      K (V.bool (ltI c1 c2)) []) (
      K (V.bool false) []))) := by kernel_rfl

theorem co_vc [MaxL] (a b : Int) (K : V → List Bk → Prop) : vcF Tryz.prog cfgN (ctOf [(222, inlC Tryz.prog cfgN (ctOf []) 222)]) (lpOf []) 158 [.int .i64 a, .int .i64 b] [] K = (
  br (notB (eqI a a)) (
    br (notB (eqI b b)) (
      K (V.int IntKind.i64 0) []) (
      K (V.int IntKind.i64 (-1)) [])) (
    br (notB (eqI b b)) (
      K (V.int IntKind.i64 1) []) (
      br (ltI a b) (
        K (V.int IntKind.i64 (-1)) []) (
        br (ltI b a) (
          K (V.int IntKind.i64 1) []) (
          K (V.int IntKind.i64 0) []))))) := by kernel_rfl

theorem or_vc [MaxL] (c1 i1 k1 u1 c2 i2 k2 u2 : Int) (K : V → List Bk → Prop) : vcF Tryz.prog cfgN (ctOf [(158, coCon), (157, inlL Tryz.prog cfgN (ctOf []) (lpOf [(3, unrL 3)]) 157)]) (lpOf []) 86 [.agg [.int .i64 c1, .int .i64 i1, .int .i64 k1, .int .i64 u1], .agg [.int .i64 c2, .int .i64 i2, .int .i64 k2, .int .i64 u2]] [] K = (
  ∃ n10 : Int, ((sub [V.int IntKind.i64 (cmpI i1 i2)] 0 1 : Option (List V)) = some [V.int IntKind.i64 n10]) ∧ (
  br (notB (eqI n10 0)) (
    K (V.int IntKind.i64 n10) []) (
    ∃ n11 : Int, ((sub [V.int IntKind.i64 (cmpI c1 c2)] 0 1 : Option (List V)) = some [V.int IntKind.i64 n11]) ∧ (
    br (notB (eqI n11 0)) (
      K (V.int IntKind.i64 n11) []) (
      K (V.int IntKind.i64 0) []))))) := by kernel_rfl

theorem cf_vc [MaxL] (c1 i1 k1 u1 c2 i2 k2 u2 : Int) (K : V → List Bk → Prop) : vcF Tryz.prog cfgN (ctOf []) (lpOf []) 84 [.agg [.int .i64 c1, .int .i64 i1, .int .i64 k1, .int .i64 u1], .agg [.int .i64 c2, .int .i64 i2, .int .i64 k2, .int .i64 u2]] [] K = (
  br (eqI i1 i2) (
    br (notB (eqI c1 c2)) (
      br (eqI k1 2) (
        K (V.bool true) []) (
        K (V.bool (eqI k2 2)) [])) (
      K (V.bool false) [])) (
    K (V.bool false) [])) := by kernel_rfl

theorem c1_vc [MaxL] (c1 i1 k1 u1 now : Int) (K : V → List Bk → Prop) : vcF Tryz.prog cfgN (ctOf []) (lpOf []) 155 [.agg [.int .i64 c1, .int .i64 i1, .int .i64 k1, .int .i64 u1], .ptr 0 0 0] [⟨true, true, true, [[.int .i64 now]], 0⟩] K = (
  K (V.bool (leI u1 now)) [Bk.mk true true true [[V.int IntKind.i64 now]] 0]) := by kernel_rfl

theorem g1_vc [MaxL] (c1 i1 k1 u1 c2 i2 k2 u2 : Int) (K : V → List Bk → Prop) : vcF Tryz.prog cfgN (ctOf [(84, cfCon)]) (lpOf []) 83 [.agg [.int .i64 c2, .int .i64 i2, .int .i64 k2, .int .i64 u2], .ptr 0 0 0] [⟨true, true, true, [[.int .i64 c1, .int .i64 i1, .int .i64 k1, .int .i64 u1]], 0⟩] K = (
  K (V.bool (cfF (Lease.mk c1 i1 k1 u1) (Lease.mk c2 i2 k2 u2))) [Bk.mk true true true [[V.int IntKind.i64 c1, V.int IntKind.i64 i1, V.int IntKind.i64 k1, V.int IntKind.i64 u1]] 0]) := by kernel_rfl

theorem v1_vc [MaxL] (c1 i1 k1 u1 id conn now kind : Int) (K : V → List Bk → Prop) : vcF Tryz.prog cfgN (ctOf []) (lpOf []) 92 [.agg [.int .i64 c1, .int .i64 i1, .int .i64 k1, .int .i64 u1], .ptr 0 0 0, .ptr 1 0 0, .ptr 2 0 0, .ptr 3 0 0] [⟨true, true, true, [[.int .i64 id]], 0⟩, ⟨true, true, true, [[.int .i64 conn]], 0⟩, ⟨true, true, true, [[.int .i64 now]], 0⟩, ⟨true, true, true, [[.int .i64 kind]], 0⟩] K = (
  br (eqI i1 id) (
    br (eqI c1 conn) (
      br (ltI now u1) (
        br (eqI kind 1) (
          K (V.bool true) [Bk.mk true true true [[V.int IntKind.i64 id]] 0, Bk.mk true true true [[V.int IntKind.i64 conn]] 0, Bk.mk true true true [[V.int IntKind.i64 now]] 0, Bk.mk true true true [[V.int IntKind.i64 kind]] 0]) (
          K (V.bool (eqI k1 2)) [Bk.mk true true true [[V.int IntKind.i64 id]] 0, Bk.mk true true true [[V.int IntKind.i64 conn]] 0, Bk.mk true true true [[V.int IntKind.i64 now]] 0, Bk.mk true true true [[V.int IntKind.i64 kind]] 0])) (
        K (V.bool false) [Bk.mk true true true [[V.int IntKind.i64 id]] 0, Bk.mk true true true [[V.int IntKind.i64 conn]] 0, Bk.mk true true true [[V.int IntKind.i64 now]] 0, Bk.mk true true true [[V.int IntKind.i64 kind]] 0])) (
      K (V.bool false) [Bk.mk true true true [[V.int IntKind.i64 id]] 0, Bk.mk true true true [[V.int IntKind.i64 conn]] 0, Bk.mk true true true [[V.int IntKind.i64 now]] 0, Bk.mk true true true [[V.int IntKind.i64 kind]] 0])) (
    K (V.bool false) [Bk.mk true true true [[V.int IntKind.i64 id]] 0, Bk.mk true true true [[V.int IntKind.i64 conn]] 0, Bk.mk true true true [[V.int IntKind.i64 now]] 0, Bk.mk true true true [[V.int IntKind.i64 kind]] 0])) := by kernel_rfl

theorem b1_vc [MaxL] (c1 i1 k1 u1 id conn now kind : Int) (K : V → List Bk → Prop) : vcF Tryz.prog cfgN (ctOf []) (lpOf []) 93 [.agg [.int .i64 c1, .int .i64 i1, .int .i64 k1, .int .i64 u1], .ptr 0 0 0, .ptr 1 0 0, .ptr 2 0 0, .ptr 3 0 0] [⟨true, true, true, [[.int .i64 id]], 0⟩, ⟨true, true, true, [[.int .i64 conn]], 0⟩, ⟨true, true, true, [[.int .i64 now]], 0⟩, ⟨true, true, true, [[.int .i64 kind]], 0⟩] K = (
  br (eqI i1 id) (
    br (notB (eqI c1 conn)) (
      br (ltI now u1) (
        br (eqI kind 2) (
          K (V.bool true) [Bk.mk true true true [[V.int IntKind.i64 id]] 0, Bk.mk true true true [[V.int IntKind.i64 conn]] 0, Bk.mk true true true [[V.int IntKind.i64 now]] 0, Bk.mk true true true [[V.int IntKind.i64 kind]] 0]) (
          K (V.bool (eqI k1 2)) [Bk.mk true true true [[V.int IntKind.i64 id]] 0, Bk.mk true true true [[V.int IntKind.i64 conn]] 0, Bk.mk true true true [[V.int IntKind.i64 now]] 0, Bk.mk true true true [[V.int IntKind.i64 kind]] 0])) (
        K (V.bool false) [Bk.mk true true true [[V.int IntKind.i64 id]] 0, Bk.mk true true true [[V.int IntKind.i64 conn]] 0, Bk.mk true true true [[V.int IntKind.i64 now]] 0, Bk.mk true true true [[V.int IntKind.i64 kind]] 0])) (
      K (V.bool false) [Bk.mk true true true [[V.int IntKind.i64 id]] 0, Bk.mk true true true [[V.int IntKind.i64 conn]] 0, Bk.mk true true true [[V.int IntKind.i64 now]] 0, Bk.mk true true true [[V.int IntKind.i64 kind]] 0])) (
    K (V.bool false) [Bk.mk true true true [[V.int IntKind.i64 id]] 0, Bk.mk true true true [[V.int IntKind.i64 conn]] 0, Bk.mk true true true [[V.int IntKind.i64 now]] 0, Bk.mk true true true [[V.int IntKind.i64 kind]] 0])) := by kernel_rfl

end Go.Proofs.YthhpdnlfhofanaaGreatDoor
namespace Go.Proofs.YthhpdnlfhofanaaGreatDoor
set_option linter.unusedVariables false
set_option linter.unusedSimpArgs false
theorem ltL_iff {a b : Lease} : ltL a b = true ↔ a.id < b.id ∨ (a.id = b.id ∧ a.conn < b.conn) := by simp [ltL]
theorem ordF_neg {a b : Lease} : ordF a b < 0 ↔ ltL a b = true := by
  rw [ltL_iff]; unfold ordF
  split
  · constructor <;> intro _ <;> first | omega | decide
  · split
    · constructor <;> intro h
      · exact absurd h (by decide)
      · omega
    · split
      · constructor <;> intro _ <;> first | omega | decide
      · split <;> constructor <;> intro h <;> first | exact absurd h (by decide) | omega
theorem ordF_zero {a b : Lease} : ordF a b = 0 ↔ a.id = b.id ∧ a.conn = b.conn := by
  unfold ordF
  split
  · constructor <;> intro h
    · exact absurd h (by decide)
    · omega
  · split
    · constructor <;> intro h
      · exact absurd h (by decide)
      · omega
    · split
      · constructor <;> intro h
        · exact absurd h (by decide)
        · omega
      · split <;> constructor <;> intro h <;> first | exact absurd h (by decide) | rfl | omega
theorem idx_any {p : Lease → Bool} {l : List Lease} {i : Int} (h : isIdx p l i) : l.any p = decide (0 ≤ i) := by
  rcases h with ⟨rfl, h⟩ | ⟨k, rfl, h, x, hx, px⟩
  · simp only [show decide ((0:Int) ≤ -1) = false from rfl]
    rw [List.any_eq_false]
    intro x hx; simp [h x hx]
  · rw [decide_eq_true (by omega), List.any_eq_true]
    exact ⟨x, List.mem_of_getElem? hx, px⟩
theorem keep_id {now : Int} {l : List Lease} (h : ∀ x ∈ l, exF now x = false) : keepL now l = l := by
  unfold keepL; exact List.filter_eq_self.2 fun x hx => by simp [h x hx]
theorem keep_snoc {now : Int} {l : List Lease} {j : Nat} {x : Lease} (h : l[j]? = some x) : keepL now (l.take (j + 1)) = if exF now x then keepL now (l.take j) else keepL now (l.take j) ++ [x] := by
  obtain ⟨h1, rfl⟩ := List.getElem?_eq_some_iff.1 h
  unfold keepL
  rw [List.take_succ_eq_append_getElem h1, List.filter_append]
  by_cases q : exF now l[j] = true
  · simp [q]
  · simp [q]
theorem keep_len {now : Int} {l : List Lease} {j : Nat} : (keepL now (l.take j)).length ≤ j := by
  unfold keepL; exact Nat.le_trans (List.length_filter_le _ _) (by simp; omega)
theorem keep_all {now : Int} {l : List Lease} : keepL now (l.take l.length) = keepL now l := by rw [List.take_length]
theorem keep_sorted {now : Int} {l : List Lease} (h : sortedP l) : sortedP (keepL now l) := List.Pairwise.filter _ h
/-- The loop of DeleteFunc: what is written so far. -/
def delI (l : List Lease) (now : Int) (L : List Lease) (i j : Nat) : Prop := L.length = l.length ∧ i < j ∧ j ≤ l.length ∧ L.take i = keepL now (l.take j) ∧ L.drop j = l.drop j
theorem del_start {l : List Lease} {now : Int} {k : Nat} (h : ∀ x ∈ l.take k, exF now x = false) {x : Lease} (hx : l[k]? = some x) (px : exF now x = true) : delI l now l k (k + 1) := by
  obtain ⟨h1, _⟩ := List.getElem?_eq_some_iff.1 hx
  refine ⟨rfl, by omega, by omega, ?_, rfl⟩
  rw [keep_snoc hx, if_pos px, keep_id h]
theorem del_get {l L : List Lease} {now : Int} {i j : Nat} (h : delI l now L i j) (hj : j < l.length) : ∃ x, L[j]? = some x ∧ l[j]? = some x := by
  obtain ⟨h1, h2, h3, h4, h5⟩ := h
  have e : L[j]? = l[j]? := by
    have := congrArg (fun t : List Lease => t[0]?) h5
    simpa using this
  exact ⟨l[j], by rw [e]; exact List.getElem?_eq_getElem hj, List.getElem?_eq_getElem hj⟩
theorem del_drop {l L : List Lease} {now : Int} {i j : Nat} (h : delI l now L i j) {x : Lease} (hx : l[j]? = some x) (px : exF now x = true) : delI l now L i (j + 1) := by
  obtain ⟨h1, h2, h3, h4, h5⟩ := h
  obtain ⟨hj, _⟩ := List.getElem?_eq_some_iff.1 hx
  refine ⟨h1, by omega, by omega, by rw [keep_snoc hx, if_pos px, h4], ?_⟩
  have := congrArg (List.drop 1) h5
  simpa [List.drop_drop] using this
theorem del_keep {l L : List Lease} {now : Int} {i j : Nat} (h : delI l now L i j) {x : Lease} (hx : l[j]? = some x) (px : exF now x = false) : delI l now (L.set i x) (i + 1) (j + 1) := by
  obtain ⟨h1, h2, h3, h4, h5⟩ := h
  obtain ⟨hj, _⟩ := List.getElem?_eq_some_iff.1 hx
  refine ⟨by simpa using h1, by omega, by omega, ?_, ?_⟩
  · rw [keep_snoc hx, px]
    simp only [Bool.false_eq_true, if_false]
    rw [← h4]
    have hi : i < L.length := by omega
    apply List.ext_getElem?
    intro a
    by_cases ha : a < i
    · rw [List.getElem?_take_of_lt (by omega), List.getElem?_set_ne (by omega), List.getElem?_append_left (by simp; omega), List.getElem?_take_of_lt ha]
    · by_cases hb : a = i
      · subst hb
        rw [List.getElem?_take_of_lt (by omega), List.getElem?_set_self hi, List.getElem?_append_right (by simp; omega)]
        simp [Nat.min_eq_left (Nat.le_of_lt hi)]
      · rw [List.getElem?_eq_none (by simp; omega), List.getElem?_eq_none (by simp; omega)]
  · rw [List.drop_set_of_lt (by omega)]
    have := congrArg (List.drop 1) h5
    simpa [List.drop_drop] using this
theorem del_end {l L : List Lease} {now : Int} {i : Nat} (h : delI l now L i l.length) : i ≤ L.length ∧ L.take i = keepL now l := by
  obtain ⟨h1, h2, h3, h4, h5⟩ := h
  exact ⟨by omega, by rw [h4, keep_all]⟩
/-- The loop of a binary search. -/
def bsI (l : List Lease) (x : Lease) (i j : Nat) : Prop := i ≤ j ∧ j ≤ l.length ∧ (∀ (a : Nat) (y : Lease), a < i → l[a]? = some y → ordF y x < 0) ∧ (∀ (a : Nat) (y : Lease), j ≤ a → l[a]? = some y → ¬ ordF y x < 0)
theorem ltL_trans {a b c : Lease} (h : ltL a b = true) (g : ltL b c = true) : ltL a c = true := by
  rw [ltL_iff] at *; omega
theorem sorted_lt {l : List Lease} (h : sortedP l) {a b : Nat} {y z : Lease} (ha : l[a]? = some y) (hb : l[b]? = some z) (hab : a < b) : ltL y z = true := by
  obtain ⟨h1, rfl⟩ := List.getElem?_eq_some_iff.1 ha
  obtain ⟨h2, rfl⟩ := List.getElem?_eq_some_iff.1 hb
  exact List.pairwise_iff_getElem.1 h a b h1 h2 hab
theorem bs_start {l : List Lease} {x : Lease} : bsI l x 0 l.length := ⟨by omega, by omega, fun a y h => by omega, fun a y h g => by
  obtain ⟨h1, _⟩ := List.getElem?_eq_some_iff.1 g; omega⟩
theorem bs_right {l : List Lease} {x : Lease} {i j h : Nat} (hs : sortedP l) (I : bsI l x i j) (hi : i ≤ h) (hj : h < j) {z : Lease} (hz : l[h]? = some z) (c : ordF z x < 0) : bsI l x (h + 1) j := by
  obtain ⟨h1, h2, h3, h4⟩ := I
  refine ⟨by omega, h2, fun a y ha hy => ?_, h4⟩
  by_cases q : a = h
  · subst q; rw [hy] at hz; cases hz; exact c
  · exact ordF_neg.2 (ltL_trans (sorted_lt hs hy hz (by omega)) (ordF_neg.1 c))
theorem bs_left {l : List Lease} {x : Lease} {i j h : Nat} (hs : sortedP l) (I : bsI l x i j) (hi : i ≤ h) (hj : h < j) {z : Lease} (hz : l[h]? = some z) (c : ¬ ordF z x < 0) : bsI l x i h := by
  obtain ⟨h1, h2, h3, h4⟩ := I
  refine ⟨hi, by omega, h3, fun a y ha hy => ?_⟩
  by_cases q : a = h
  · subst q; rw [hy] at hz; cases hz; exact c
  · intro n
    exact c (ordF_neg.2 (ltL_trans (sorted_lt hs hz hy (by omega)) (ordF_neg.1 n)))
theorem bs_found {l : List Lease} {x : Lease} {i : Nat} (I : bsI l x i i) {z : Lease} (hz : l[i]? = some z) (c : ordF z x = 0) : isFound l x i true :=
  ⟨i, rfl, I.2.1, fun _ => ⟨z, hz, ordF_zero.1 c⟩, fun h => absurd h (by decide)⟩
theorem bs_none {l : List Lease} {x : Lease} {i : Nat} (hs : sortedP l) (I : bsI l x i i) (c : ∀ z, l[i]? = some z → ordF z x ≠ 0) : isFound l x i false := by
  refine ⟨i, rfl, I.2.1, ⟨fun (h : false = true) => absurd h (by decide), fun _ y hy e => ?_⟩⟩
  obtain ⟨a, ha⟩ := List.getElem?_of_mem hy
  have e0 : ordF y x = 0 := ordF_zero.2 e
  rcases Nat.lt_trichotomy a i with q | rfl | q
  · have := I.2.2.1 a y q ha; omega
  · exact c y ha e0
  · have hl : a < l.length := (List.getElem?_eq_some_iff.1 ha).1
    have hz := List.getElem?_eq_getElem (Nat.lt_trans q hl)
    have := I.2.2.2 i _ (Nat.le_refl _) hz
    have hlt := sorted_lt hs hz ha q
    apply this
    rw [ordF_neg]
    rw [ltL_iff] at hlt ⊢
    obtain ⟨e1, e2⟩ := e
    rw [← e1, ← e2]; exact hlt
theorem grant_set {L : List Lease} {k i : Nat} {x y : Lease} (hs : sortedP (L.take k)) (hy : (L.take k)[i]? = some y) (e1 : y.id = x.id) (e2 : y.conn = x.conn) : x ∈ (L.set i x).take k ∧ ∀ z ∈ (L.set i x).take k, z.id = x.id → z.conn = x.conn → z = x := by
  obtain ⟨hi, hyy⟩ := List.getElem?_eq_some_iff.1 hy
  have hik : i < k := by simp at hi; omega
  have hiL : i < L.length := by simp at hi; omega
  refine ⟨List.mem_of_getElem? (i := i) (by rw [List.getElem?_take_of_lt hik, List.getElem?_set_self hiL]), fun z hz f1 f2 => ?_⟩
  obtain ⟨a, ha⟩ := List.getElem?_of_mem hz
  have hak : a < k := by have := (List.getElem?_eq_some_iff.1 ha).1; simp at this; omega
  rw [List.getElem?_take_of_lt hak] at ha
  by_cases q : a = i
  · subst q; rw [List.getElem?_set_self hiL] at ha; cases ha; rfl
  · rw [List.getElem?_set_ne (by omega)] at ha
    have hz' : (L.take k)[a]? = some z := by rw [List.getElem?_take_of_lt hak]; exact ha
    rcases Nat.lt_or_gt_of_ne q with h | h
    · have := ltL_iff.1 (sorted_lt hs hz' hy h); omega
    · have := ltL_iff.1 (sorted_lt hs hy hz' h); omega
theorem grant_ins {T a b : List Lease} {x : Lease} (e : T = a ++ b) (h : ∀ y ∈ T, ¬ (y.id = x.id ∧ y.conn = x.conn)) : x ∈ a ++ x :: b ∧ ∀ z ∈ a ++ x :: b, z.id = x.id → z.conn = x.conn → z = x := by
  subst e
  refine ⟨by simp, fun z hz f1 f2 => ?_⟩
  simp only [List.mem_append, List.mem_cons] at hz
  rcases hz with hz | rfl | hz
  · exact absurd ⟨f1, f2⟩ (h z (by simp [hz]))
  · rfl
  · exact absurd ⟨f1, f2⟩ (h z (by simp [hz]))
theorem sorted_snoc {l : List Lease} {i : Nat} {x : Lease} (h : sortedP (l.take i)) (hx : l[i]? = some x) (c : ∀ y, 0 < i → l[i - 1]? = some y → ltL y x = true) : sortedP (l.take (i + 1)) := by
  obtain ⟨hi, rfl⟩ := List.getElem?_eq_some_iff.1 hx
  rw [List.take_succ_eq_append_getElem hi]
  unfold sortedP
  rw [List.pairwise_append]
  refine ⟨h, List.pairwise_singleton _ _, fun y hy z hz => ?_⟩
  obtain rfl := List.mem_singleton.1 hz
  obtain ⟨a, ha⟩ := List.getElem?_of_mem hy
  have hai : a < i := by have := (List.getElem?_eq_some_iff.1 ha).1; simp at this; omega
  have hlast := List.getElem?_eq_getElem (l := l) (i := i - 1) (by omega)
  have c1 := c _ (by omega) hlast
  by_cases q : a = i - 1
  · subst q
    rw [List.getElem?_take_of_lt hai, hlast] at ha
    cases ha; exact c1
  · refine ltL_trans (sorted_lt h ha (b := i - 1) (z := l[i - 1]) ?_ (by omega)) c1
    rw [List.getElem?_take_of_lt (by omega)]; exact hlast
theorem ok_snoc {p : Lease → Bool} {l : List Lease} {i : Nat} {x : Lease} (h : ∀ y ∈ l.take i, p y = true) (hx : l[i]? = some x) (c : p x = true) : ∀ y ∈ l.take (i + 1), p y = true := by
  obtain ⟨hi, rfl⟩ := List.getElem?_eq_some_iff.1 hx
  rw [List.take_succ_eq_append_getElem hi]
  intro y hy
  rcases List.mem_append.1 hy with hy | hy
  · exact h y hy
  · obtain rfl := List.mem_singleton.1 hy; exact c
theorem no_snoc {p : Lease → Bool} {l : List Lease} {i : Nat} {x : Lease} (h : ∀ y ∈ l.take i, p y = false) (hx : l[i]? = some x) (c : p x = false) : ∀ y ∈ l.take (i + 1), p y = false := by
  have := ok_snoc (p := fun y => !p y) (fun y hy => by simp [h y hy]) hx (by simp [c])
  intro y hy
  simpa using this y hy
theorem valid_any {m : List Lease} {conn id u at' : Int} (hx : (⟨conn, id, 1, u⟩ : Lease) ∈ m) (h : ∀ y ∈ m, y.id = id → y.conn = conn → y = ⟨conn, id, 1, u⟩) : m.any (vaF conn id 1 at') = decide (at' < u) := by
  by_cases q : at' < u
  · rw [decide_eq_true q, List.any_eq_true]
    exact ⟨_, hx, by simp [vaF, q]⟩
  · rw [decide_eq_false q, List.any_eq_false]
    intro y hy hv
    simp only [vaF, Bool.and_eq_true, decide_eq_true_eq] at hv
    have := h y hy hv.1.1.1 hv.1.1.2
    rw [this] at hv
    exact q hv.1.2
theorem blocks_any {m : List Lease} {conn id u at' other : Int} (hx : (⟨conn, id, 1, u⟩ : Lease) ∈ m) (q : at' < u) (ho : other ≠ conn) : m.any (blF other id 2 at') = true := by
  rw [List.any_eq_true]
  exact ⟨_, hx, by simp [blF, q]; omega⟩
end Go.Proofs.YthhpdnlfhofanaaGreatDoor
namespace Go.Proofs.YthhpdnlfhofanaaGreatDoor
open Go.RowKit
set_option maxRecDepth 100000
set_option linter.unusedVariables false
set_option linter.unusedSimpArgs false
theorem in_con [MaxL] {n : Nat} (hn : 1 ≤ n) : ConOk (evalF Tryz.prog cfgN n) 75 inCon := by
  intro vs bs K h
  unfold inCon at h
  split at h
  · rename_i a lo hi
    refine run_of (lp := lpOf []) hn (fun k _ => noCt_ok _) ?_
    rw [in_vc]
    have f : ∀ {b : Bool}, inI a lo hi = b → K (.bool b) [] := fun q => by subst q; exact h
    rw [br_iff]; refine ⟨fun g => f (by simp only [br_iff, need_iff, andB_t, andB_f, orB_t, orB_f, notB_t, notB_f, leI_t, leI_f, ltI_t, ltI_f, eqI_t, eqI_f, leN_t, leN_f, eqN_t, eqN_f, eqS_t, eqS_f, eqB_t, eqB_f, catOk_t, leC_t] at g; simp [inI, leI, g]), fun g => f (by simp only [br_iff, need_iff, andB_t, andB_f, orB_t, orB_f, notB_t, notB_f, leI_t, leI_f, ltI_t, ltI_f, eqI_t, eqI_f, leN_t, leN_f, eqN_t, eqN_f, eqS_t, eqS_f, eqB_t, eqB_f, catOk_t, leC_t] at g; simp [inI]; omega)⟩
  · exact h.elim
theorem wi_con [MaxL] {n : Nat} (hn : 1 ≤ n) : ConOk (evalF Tryz.prog cfgN n) 78 inCon := by
  intro vs bs K h
  unfold inCon at h
  split at h
  · rename_i a lo hi
    refine run_of (lp := lpOf []) hn (fun k _ => noCt_ok _) ?_
    rw [wi_vc]
    have f : ∀ {b : Bool}, inI a lo hi = b → K (.bool b) [] := fun q => by subst q; exact h
    rw [br_iff]; refine ⟨fun g => f (by simp only [br_iff, need_iff, andB_t, andB_f, orB_t, orB_f, notB_t, notB_f, leI_t, leI_f, ltI_t, ltI_f, eqI_t, eqI_f, leN_t, leN_f, eqN_t, eqN_f, eqS_t, eqS_f, eqB_t, eqB_f, catOk_t, leC_t] at g; simp [inI, leI, g]), fun g => f (by simp only [br_iff, need_iff, andB_t, andB_f, orB_t, orB_f, notB_t, notB_f, leI_t, leI_f, ltI_t, ltI_f, eqI_t, eqI_f, leN_t, leN_f, eqN_t, eqN_f, eqS_t, eqS_f, eqB_t, eqB_f, catOk_t, leC_t] at g; simp [inI]; omega)⟩
  · exact h.elim
theorem ki_con [MaxL] {n : Nat} (hn : 1 ≤ n) : ConOk (evalF Tryz.prog cfgN n) 76 kiCon := by
  intro vs bs K h
  unfold kiCon at h
  split at h
  · rename_i a
    refine run_of (lp := lpOf []) hn (fun k _ => noCt_ok _) ?_
    rw [ki_vc]
    have f : ∀ {b : Bool}, kOk a = b → K (.bool b) [] := fun q => by subst q; exact h
    rw [br_iff]; refine ⟨fun g => f (by simp only [br_iff, need_iff, andB_t, andB_f, orB_t, orB_f, notB_t, notB_f, leI_t, leI_f, ltI_t, ltI_f, eqI_t, eqI_f, leN_t, leN_f, eqN_t, eqN_f, eqS_t, eqS_f, eqB_t, eqB_f, catOk_t, leC_t] at g; simp [kOk, g]), fun g => f (by simp only [br_iff, need_iff, andB_t, andB_f, orB_t, orB_f, notB_t, notB_f, leI_t, leI_f, ltI_t, ltI_f, eqI_t, eqI_f, leN_t, leN_f, eqN_t, eqN_f, eqS_t, eqS_f, eqB_t, eqB_f, catOk_t, leC_t] at g; simp [kOk, eqI, g])⟩
  · exact h.elim
theorem ik_con [MaxL] {n : Nat} (hn : 1 ≤ n) : ConOk (evalF Tryz.prog cfgN n) 79 kiCon := by
  intro vs bs K h
  unfold kiCon at h
  split at h
  · rename_i a
    refine run_of (lp := lpOf []) hn (fun k _ => noCt_ok _) ?_
    rw [ik_vc]
    have f : ∀ {b : Bool}, kOk a = b → K (.bool b) [] := fun q => by subst q; exact h
    rw [br_iff]; refine ⟨fun g => f (by simp only [br_iff, need_iff, andB_t, andB_f, orB_t, orB_f, notB_t, notB_f, leI_t, leI_f, ltI_t, ltI_f, eqI_t, eqI_f, leN_t, leN_f, eqN_t, eqN_f, eqS_t, eqS_f, eqB_t, eqB_f, catOk_t, leC_t] at g; simp [kOk, g]), fun g => f (by simp only [br_iff, need_iff, andB_t, andB_f, orB_t, orB_f, notB_t, notB_f, leI_t, leI_f, ltI_t, ltI_f, eqI_t, eqI_f, leN_t, leN_f, eqN_t, eqN_f, eqS_t, eqS_f, eqB_t, eqB_f, catOk_t, leC_t] at g; simp [kOk, eqI, g])⟩
  · exact h.elim
theorem be_con [MaxL] {n : Nat} (hn : 1 ≤ n) : ConOk (evalF Tryz.prog cfgN n) 77 beCon := by
  intro vs bs K h
  unfold beCon at h
  split at h
  · rename_i c1 i1 k1 u1 c2 i2 k2 u2
    refine run_of (lp := lpOf []) hn (fun k _ => noCt_ok _) ?_
    rw [be_vc]
    have f : ∀ {b : Bool}, ltL ⟨c1, i1, k1, u1⟩ ⟨c2, i2, k2, u2⟩ = b → K (.bool b) [] := fun q => by subst q; exact h
    rw [br_iff]; refine ⟨fun g => f (by simp only [br_iff, need_iff, andB_t, andB_f, orB_t, orB_f, notB_t, notB_f, leI_t, leI_f, ltI_t, ltI_f, eqI_t, eqI_f, leN_t, leN_f, eqN_t, eqN_f, eqS_t, eqS_f, eqB_t, eqB_f, catOk_t, leC_t] at g; simp [ltL, g]), fun g => ?_⟩
    simp only [br_iff, need_iff, andB_t, andB_f, orB_t, orB_f, notB_t, notB_f, leI_t, leI_f, ltI_t, ltI_f, eqI_t, eqI_f, leN_t, leN_f, eqN_t, eqN_f, eqS_t, eqS_f, eqB_t, eqB_f, catOk_t, leC_t] at g
    rw [br_iff]; refine ⟨fun g2 => f (by simp only [br_iff, need_iff, andB_t, andB_f, orB_t, orB_f, notB_t, notB_f, leI_t, leI_f, ltI_t, ltI_f, eqI_t, eqI_f, leN_t, leN_f, eqN_t, eqN_f, eqS_t, eqS_f, eqB_t, eqB_f, catOk_t, leC_t] at g2; simp [ltL, ltI, g2]), fun g2 => f (by simp only [br_iff, need_iff, andB_t, andB_f, orB_t, orB_f, notB_t, notB_f, leI_t, leI_f, ltI_t, ltI_f, eqI_t, eqI_f, leN_t, leN_f, eqN_t, eqN_f, eqS_t, eqS_f, eqB_t, eqB_f, catOk_t, leC_t] at g2; simp [ltL, g2]; omega)⟩
  · exact h.elim
theorem co_con [MaxL] {n : Nat} (hn : 2 ≤ n) : ConOk (evalF Tryz.prog cfgN n) 158 coCon := by
  intro vs bs K h
  unfold coCon at h
  split at h
  · rename_i a b
    refine run_of (lp := lpOf []) (by omega) (ct := ctOf [(222, inlC Tryz.prog cfgN (ctOf []) 222)]) (fun k hk => ctOf_ok (ctOf_cons (inl_ok (by omega) fun _ _ => noCt_ok _) (ctOf_nil _))) ?_
    rw [co_vc]
    have f : ∀ {r : Int}, cmpI a b = r → K (.int .i64 r) [] := fun q => by subst q; exact h
    unfold cmpI at f
    rw [br_iff]; refine ⟨fun g => absurd g (by simp [notB, eqI]), fun _ => ?_⟩
    rw [br_iff]; refine ⟨fun g => absurd g (by simp [notB, eqI]), fun _ => ?_⟩
    rw [br_iff]; refine ⟨fun g => f (by simp only [br_iff, need_iff, andB_t, andB_f, orB_t, orB_f, notB_t, notB_f, leI_t, leI_f, ltI_t, ltI_f, eqI_t, eqI_f, leN_t, leN_f, eqN_t, eqN_f, eqS_t, eqS_f, eqB_t, eqB_f, catOk_t, leC_t] at g; rw [if_pos g]), fun g => ?_⟩
    simp only [br_iff, need_iff, andB_t, andB_f, orB_t, orB_f, notB_t, notB_f, leI_t, leI_f, ltI_t, ltI_f, eqI_t, eqI_f, leN_t, leN_f, eqN_t, eqN_f, eqS_t, eqS_f, eqB_t, eqB_f, catOk_t, leC_t] at g
    rw [br_iff]; refine ⟨fun g2 => f (by simp only [br_iff, need_iff, andB_t, andB_f, orB_t, orB_f, notB_t, notB_f, leI_t, leI_f, ltI_t, ltI_f, eqI_t, eqI_f, leN_t, leN_f, eqN_t, eqN_f, eqS_t, eqS_f, eqB_t, eqB_f, catOk_t, leC_t] at g2; rw [if_neg (by omega), if_pos g2]), fun g2 => f (by simp only [br_iff, need_iff, andB_t, andB_f, orB_t, orB_f, notB_t, notB_f, leI_t, leI_f, ltI_t, ltI_f, eqI_t, eqI_f, leN_t, leN_f, eqN_t, eqN_f, eqS_t, eqS_f, eqB_t, eqB_f, catOk_t, leC_t] at g2; rw [if_neg (by omega), if_neg (by omega)])⟩
  · exact h.elim
theorem or_con [MaxL] {n : Nat} (hn : 3 ≤ n) : ConOk (evalF Tryz.prog cfgN n) 86 orCon := by
  intro vs bs K h
  unfold orCon at h
  split at h
  · rename_i c1 i1 k1 u1 c2 i2 k2 u2
    refine run_of (lp := lpOf []) (by omega) (ct := ctOf [(158, coCon), (157, inlL Tryz.prog cfgN (ctOf []) (lpOf [(3, unrL 3)]) 157)])
      (fun k hk => ctOf_ok (ctOf_cons (co_con (by omega)) (ctOf_cons (inlL_ok (by omega) fun _ _ => noCt_ok _) (ctOf_nil _)))) ?_
    rw [or_vc]
    have f : ∀ {r : Int}, ordF ⟨c1, i1, k1, u1⟩ ⟨c2, i2, k2, u2⟩ = r → K (.int .i64 r) [] := fun q => by subst q; exact h
    have hz : ∀ a b : Int, cmpI a b = 0 ↔ (¬ a < b ∧ ¬ b < a) := fun a b => by unfold cmpI; constructor <;> intro g <;> (repeat (split at g <;> try omega)) <;> (repeat (split <;> try omega))
    refine ⟨cmpI i1 i2, rfl, ?_⟩
    rw [br_iff]; refine ⟨fun g => f ?_, fun g => ⟨cmpI c1 c2, rfl, ?_⟩⟩
    · simp only [br_iff, need_iff, andB_t, andB_f, orB_t, orB_f, notB_t, notB_f, leI_t, leI_f, ltI_t, ltI_f, eqI_t, eqI_f, leN_t, leN_f, eqN_t, eqN_f, eqS_t, eqS_f, eqB_t, eqB_f, catOk_t, leC_t] at g
      unfold ordF cmpI
      simp only
      by_cases q : i1 < i2
      · rw [if_pos q, if_pos q]
      · by_cases q2 : i2 < i1
        · rw [if_neg q, if_neg q, if_pos q2, if_pos q2]
        · exact absurd ((hz _ _).2 ⟨q, q2⟩) g
    have hi : cmpI i1 i2 = 0 := by simpa only [br_iff, need_iff, andB_t, andB_f, orB_t, orB_f, notB_t, notB_f, leI_t, leI_f, ltI_t, ltI_f, eqI_t, eqI_f, leN_t, leN_f, eqN_t, eqN_f, eqS_t, eqS_f, eqB_t, eqB_f, catOk_t, leC_t, Decidable.not_not] using g
    have hi := (hz _ _).1 hi
    rw [br_iff]; refine ⟨fun g2 => f ?_, fun g2 => f ?_⟩
    · unfold ordF cmpI
      simp only
      rw [if_neg hi.1, if_neg hi.2]
    · have h2 : cmpI c1 c2 = 0 := by simpa only [br_iff, need_iff, andB_t, andB_f, orB_t, orB_f, notB_t, notB_f, leI_t, leI_f, ltI_t, ltI_f, eqI_t, eqI_f, leN_t, leN_f, eqN_t, eqN_f, eqS_t, eqS_f, eqB_t, eqB_f, catOk_t, leC_t, Decidable.not_not] using g2
      have h2 := (hz _ _).1 h2
      unfold ordF
      simp only
      rw [if_neg hi.1, if_neg hi.2, if_neg h2.1, if_neg h2.2]
  · exact h.elim
theorem cf_con [MaxL] {n : Nat} (hn : 1 ≤ n) : ConOk (evalF Tryz.prog cfgN n) 84 cfCon := by
  intro vs bs K h
  unfold cfCon at h
  split at h
  · rename_i c1 i1 k1 u1 c2 i2 k2 u2
    refine run_of (lp := lpOf []) hn (fun k _ => noCt_ok _) ?_
    rw [cf_vc]
    have f : ∀ {b : Bool}, cfF ⟨c1, i1, k1, u1⟩ ⟨c2, i2, k2, u2⟩ = b → K (.bool b) [] := fun q => by subst q; exact h
    rw [br_iff]; refine ⟨fun g1 => ?_, fun g1 => f (by simp only [br_iff, need_iff, andB_t, andB_f, orB_t, orB_f, notB_t, notB_f, leI_t, leI_f, ltI_t, ltI_f, eqI_t, eqI_f, leN_t, leN_f, eqN_t, eqN_f, eqS_t, eqS_f, eqB_t, eqB_f, catOk_t, leC_t] at g1; simp [cfF, g1])⟩
    simp only [br_iff, need_iff, andB_t, andB_f, orB_t, orB_f, notB_t, notB_f, leI_t, leI_f, ltI_t, ltI_f, eqI_t, eqI_f, leN_t, leN_f, eqN_t, eqN_f, eqS_t, eqS_f, eqB_t, eqB_f, catOk_t, leC_t] at g1
    rw [br_iff]; refine ⟨fun g2 => ?_, fun g2 => f (by simp only [br_iff, need_iff, andB_t, andB_f, orB_t, orB_f, notB_t, notB_f, leI_t, leI_f, ltI_t, ltI_f, eqI_t, eqI_f, leN_t, leN_f, eqN_t, eqN_f, eqS_t, eqS_f, eqB_t, eqB_f, catOk_t, leC_t] at g2; simp [cfF]; omega)⟩
    simp only [br_iff, need_iff, andB_t, andB_f, orB_t, orB_f, notB_t, notB_f, leI_t, leI_f, ltI_t, ltI_f, eqI_t, eqI_f, leN_t, leN_f, eqN_t, eqN_f, eqS_t, eqS_f, eqB_t, eqB_f, catOk_t, leC_t] at g2
    rw [br_iff]; refine ⟨fun g3 => f (by simp only [br_iff, need_iff, andB_t, andB_f, orB_t, orB_f, notB_t, notB_f, leI_t, leI_f, ltI_t, ltI_f, eqI_t, eqI_f, leN_t, leN_f, eqN_t, eqN_f, eqS_t, eqS_f, eqB_t, eqB_f, catOk_t, leC_t] at g3; simp [cfF, g1, g2, g3]), fun g3 => f (by simp only [br_iff, need_iff, andB_t, andB_f, orB_t, orB_f, notB_t, notB_f, leI_t, leI_f, ltI_t, ltI_f, eqI_t, eqI_f, leN_t, leN_f, eqN_t, eqN_f, eqS_t, eqS_f, eqB_t, eqB_f, catOk_t, leC_t] at g3; simp [cfF, eqI, g1, g2, g3])⟩
  · exact h.elim
def c1Con : Con := fun vs bs K => match vs, bs with
  | [.agg r, .ptr 0 0 0], [⟨true, true, true, [[.int .i64 now]], 0⟩] => ∃ x : Lease, r = Lease.v x ∧ K (.bool (exF now x)) [⟨true, true, true, [[.int .i64 now]], 0⟩]
  | _, _ => False
def g1Con : Con := fun vs bs K => match vs, bs with
  | [.agg r, .ptr 0 0 0], [⟨true, true, true, [[.int .i64 c, .int .i64 i, .int .i64 k, .int .i64 u]], 0⟩] => ∃ x : Lease, r = Lease.v x ∧ K (.bool (cfF ⟨c, i, k, u⟩ x)) [⟨true, true, true, [[.int .i64 c, .int .i64 i, .int .i64 k, .int .i64 u]], 0⟩]
  | _, _ => False
def v1Con : Con := fun vs bs K => match vs, bs with
  | [.agg r, .ptr 0 0 0, .ptr 1 0 0, .ptr 2 0 0, .ptr 3 0 0], [⟨true, true, true, [[.int .i64 id]], 0⟩, ⟨true, true, true, [[.int .i64 conn]], 0⟩, ⟨true, true, true, [[.int .i64 now]], 0⟩, ⟨true, true, true, [[.int .i64 kind]], 0⟩] =>
    ∃ x : Lease, r = Lease.v x ∧ K (.bool (vaF conn id kind now x)) [⟨true, true, true, [[.int .i64 id]], 0⟩, ⟨true, true, true, [[.int .i64 conn]], 0⟩, ⟨true, true, true, [[.int .i64 now]], 0⟩, ⟨true, true, true, [[.int .i64 kind]], 0⟩]
  | _, _ => False
def b1Con : Con := fun vs bs K => match vs, bs with
  | [.agg r, .ptr 0 0 0, .ptr 1 0 0, .ptr 2 0 0, .ptr 3 0 0], [⟨true, true, true, [[.int .i64 id]], 0⟩, ⟨true, true, true, [[.int .i64 conn]], 0⟩, ⟨true, true, true, [[.int .i64 now]], 0⟩, ⟨true, true, true, [[.int .i64 kind]], 0⟩] =>
    ∃ x : Lease, r = Lease.v x ∧ K (.bool (blF conn id kind now x)) [⟨true, true, true, [[.int .i64 id]], 0⟩, ⟨true, true, true, [[.int .i64 conn]], 0⟩, ⟨true, true, true, [[.int .i64 now]], 0⟩, ⟨true, true, true, [[.int .i64 kind]], 0⟩]
  | _, _ => False
theorem c1_con [MaxL] {n : Nat} (hn : 1 ≤ n) : ConOk (evalF Tryz.prog cfgN n) 155 c1Con := by
  intro vs bs K h
  unfold c1Con at h
  split at h
  · rename_i r now
    obtain ⟨⟨c, i, k, u⟩, rfl, h⟩ := h
    dsimp only [Lease.v]
    refine run_of (lp := lpOf []) hn (fun k _ => noCt_ok _) ?_
    rw [c1_vc]
    exact h
  · exact h.elim
theorem g1_con [MaxL] {n : Nat} (hn : 2 ≤ n) : ConOk (evalF Tryz.prog cfgN n) 83 g1Con := by
  intro vs bs K h
  unfold g1Con at h
  split at h
  · obtain ⟨⟨c, i, k, u⟩, rfl, h⟩ := h
    dsimp only [Lease.v]
    refine run_of (lp := lpOf []) (by omega) (ct := ctOf [(84, cfCon)]) (fun k hk => ctOf_ok (ctOf_cons (cf_con (by omega)) (ctOf_nil _))) ?_
    rw [g1_vc]
    exact h
  · exact h.elim
theorem v1_con [MaxL] {n : Nat} (hn : 1 ≤ n) : ConOk (evalF Tryz.prog cfgN n) 92 v1Con := by
  intro vs bs K h
  unfold v1Con at h
  split at h
  · rename_i r id conn now kind
    obtain ⟨⟨c, i, k, u⟩, rfl, h⟩ := h
    dsimp only [Lease.v]
    refine run_of (lp := lpOf []) hn (fun k _ => noCt_ok _) ?_
    rw [v1_vc]
    have f : ∀ {b : Bool}, vaF conn id kind now ⟨c, i, k, u⟩ = b → K (.bool b) [⟨true, true, true, [[.int .i64 id]], 0⟩, ⟨true, true, true, [[.int .i64 conn]], 0⟩, ⟨true, true, true, [[.int .i64 now]], 0⟩, ⟨true, true, true, [[.int .i64 kind]], 0⟩] := fun q => by subst q; exact h
    rw [br_iff]; refine ⟨fun g1 => ?_, fun g1 => f (by simp only [br_iff, need_iff, andB_t, andB_f, orB_t, orB_f, notB_t, notB_f, leI_t, leI_f, ltI_t, ltI_f, eqI_t, eqI_f, leN_t, leN_f, eqN_t, eqN_f, eqS_t, eqS_f, eqB_t, eqB_f, catOk_t, leC_t] at g1; simp [vaF, g1])⟩
    simp only [br_iff, need_iff, andB_t, andB_f, orB_t, orB_f, notB_t, notB_f, leI_t, leI_f, ltI_t, ltI_f, eqI_t, eqI_f, leN_t, leN_f, eqN_t, eqN_f, eqS_t, eqS_f, eqB_t, eqB_f, catOk_t, leC_t] at g1
    rw [br_iff]; refine ⟨fun g2 => ?_, fun g2 => f (by simp only [br_iff, need_iff, andB_t, andB_f, orB_t, orB_f, notB_t, notB_f, leI_t, leI_f, ltI_t, ltI_f, eqI_t, eqI_f, leN_t, leN_f, eqN_t, eqN_f, eqS_t, eqS_f, eqB_t, eqB_f, catOk_t, leC_t] at g2; simp [vaF, g2])⟩
    simp only [br_iff, need_iff, andB_t, andB_f, orB_t, orB_f, notB_t, notB_f, leI_t, leI_f, ltI_t, ltI_f, eqI_t, eqI_f, leN_t, leN_f, eqN_t, eqN_f, eqS_t, eqS_f, eqB_t, eqB_f, catOk_t, leC_t] at g2
    rw [br_iff]; refine ⟨fun g3 => ?_, fun g3 => f (by simp only [br_iff, need_iff, andB_t, andB_f, orB_t, orB_f, notB_t, notB_f, leI_t, leI_f, ltI_t, ltI_f, eqI_t, eqI_f, leN_t, leN_f, eqN_t, eqN_f, eqS_t, eqS_f, eqB_t, eqB_f, catOk_t, leC_t] at g3; simp [vaF]; omega)⟩
    simp only [br_iff, need_iff, andB_t, andB_f, orB_t, orB_f, notB_t, notB_f, leI_t, leI_f, ltI_t, ltI_f, eqI_t, eqI_f, leN_t, leN_f, eqN_t, eqN_f, eqS_t, eqS_f, eqB_t, eqB_f, catOk_t, leC_t] at g3
    rw [br_iff]; refine ⟨fun g4 => f (by simp only [br_iff, need_iff, andB_t, andB_f, orB_t, orB_f, notB_t, notB_f, leI_t, leI_f, ltI_t, ltI_f, eqI_t, eqI_f, leN_t, leN_f, eqN_t, eqN_f, eqS_t, eqS_f, eqB_t, eqB_f, catOk_t, leC_t] at g4; simp [vaF, g1, g2, g3, g4]), fun g4 => f (by simp only [br_iff, need_iff, andB_t, andB_f, orB_t, orB_f, notB_t, notB_f, leI_t, leI_f, ltI_t, ltI_f, eqI_t, eqI_f, leN_t, leN_f, eqN_t, eqN_f, eqS_t, eqS_f, eqB_t, eqB_f, catOk_t, leC_t] at g4; simp [vaF, eqI, g1, g2, g3, g4])⟩
  · exact h.elim
theorem b1_con [MaxL] {n : Nat} (hn : 1 ≤ n) : ConOk (evalF Tryz.prog cfgN n) 93 b1Con := by
  intro vs bs K h
  unfold b1Con at h
  split at h
  · rename_i r id conn now kind
    obtain ⟨⟨c, i, k, u⟩, rfl, h⟩ := h
    dsimp only [Lease.v]
    refine run_of (lp := lpOf []) hn (fun k _ => noCt_ok _) ?_
    rw [b1_vc]
    have f : ∀ {b : Bool}, blF conn id kind now ⟨c, i, k, u⟩ = b → K (.bool b) [⟨true, true, true, [[.int .i64 id]], 0⟩, ⟨true, true, true, [[.int .i64 conn]], 0⟩, ⟨true, true, true, [[.int .i64 now]], 0⟩, ⟨true, true, true, [[.int .i64 kind]], 0⟩] := fun q => by subst q; exact h
    rw [br_iff]; refine ⟨fun g1 => ?_, fun g1 => f (by simp only [br_iff, need_iff, andB_t, andB_f, orB_t, orB_f, notB_t, notB_f, leI_t, leI_f, ltI_t, ltI_f, eqI_t, eqI_f, leN_t, leN_f, eqN_t, eqN_f, eqS_t, eqS_f, eqB_t, eqB_f, catOk_t, leC_t] at g1; simp [blF, g1])⟩
    simp only [br_iff, need_iff, andB_t, andB_f, orB_t, orB_f, notB_t, notB_f, leI_t, leI_f, ltI_t, ltI_f, eqI_t, eqI_f, leN_t, leN_f, eqN_t, eqN_f, eqS_t, eqS_f, eqB_t, eqB_f, catOk_t, leC_t] at g1
    rw [br_iff]; refine ⟨fun g2 => ?_, fun g2 => f (by simp only [br_iff, need_iff, andB_t, andB_f, orB_t, orB_f, notB_t, notB_f, leI_t, leI_f, ltI_t, ltI_f, eqI_t, eqI_f, leN_t, leN_f, eqN_t, eqN_f, eqS_t, eqS_f, eqB_t, eqB_f, catOk_t, leC_t] at g2; simp [blF]; omega)⟩
    simp only [br_iff, need_iff, andB_t, andB_f, orB_t, orB_f, notB_t, notB_f, leI_t, leI_f, ltI_t, ltI_f, eqI_t, eqI_f, leN_t, leN_f, eqN_t, eqN_f, eqS_t, eqS_f, eqB_t, eqB_f, catOk_t, leC_t] at g2
    rw [br_iff]; refine ⟨fun g3 => ?_, fun g3 => f (by simp only [br_iff, need_iff, andB_t, andB_f, orB_t, orB_f, notB_t, notB_f, leI_t, leI_f, ltI_t, ltI_f, eqI_t, eqI_f, leN_t, leN_f, eqN_t, eqN_f, eqS_t, eqS_f, eqB_t, eqB_f, catOk_t, leC_t] at g3; simp [blF]; omega)⟩
    simp only [br_iff, need_iff, andB_t, andB_f, orB_t, orB_f, notB_t, notB_f, leI_t, leI_f, ltI_t, ltI_f, eqI_t, eqI_f, leN_t, leN_f, eqN_t, eqN_f, eqS_t, eqS_f, eqB_t, eqB_f, catOk_t, leC_t] at g3
    rw [br_iff]; refine ⟨fun g4 => f (by simp only [br_iff, need_iff, andB_t, andB_f, orB_t, orB_f, notB_t, notB_f, leI_t, leI_f, ltI_t, ltI_f, eqI_t, eqI_f, leN_t, leN_f, eqN_t, eqN_f, eqS_t, eqS_f, eqB_t, eqB_f, catOk_t, leC_t] at g4; simp [blF, g1, g2, g3, g4]), fun g4 => f (by simp only [br_iff, need_iff, andB_t, andB_f, orB_t, orB_f, notB_t, notB_f, leI_t, leI_f, ltI_t, ltI_f, eqI_t, eqI_f, leN_t, leN_f, eqN_t, eqN_f, eqS_t, eqS_f, eqB_t, eqB_f, catOk_t, leC_t] at g4; simp [blF, eqI, g1, g2, g3, g4])⟩
  · exact h.elim
end Go.Proofs.YthhpdnlfhofanaaGreatDoor
namespace Go.Proofs.YthhpdnlfhofanaaGreatDoor
open Go.RowKit
set_option maxRecDepth 100000
set_option linter.unusedVariables false
set_option linter.unusedSimpArgs false
structure irC where
  k : Nat
  m : Nat
  ys : List (List V)
  now : Int
  cnt : Int
structure irX where
  i : Int
def irSt (c : irC) (x : irX) : St := ⟨[(0, .ref 0 0 c.k c.m), (1, .func 155 [] [.ptr 1 0 0]), (7, .int .i64 c.cnt), (8, .int .i64 x.i)], [(0, ⟨true, false, true, c.ys, 0⟩), (1, ⟨true, true, true, [[.int .i64 c.now]], 0⟩)]⟩
set_option maxHeartbeats 4000000 in
def irUn (s : St) : Option (irC × irX) :=
  match s with
  | ⟨[(q0, .ref q1 q2 k m), (q3, .func q4 [] [.ptr q5 q6 q7]), (q8, .int .i64 cnt), (q9, .int .i64 i)], [(q10, ⟨true, false, true, ys, q11⟩), (q12, ⟨true, true, true, [[.int .i64 now]], q13⟩)]⟩ => bif Nat.beq q0 0 && Nat.beq q1 0 && Nat.beq q2 0 && Nat.beq q3 1 && Nat.beq q4 155 && Nat.beq q5 1 && Nat.beq q6 0 && Nat.beq q7 0 && Nat.beq q8 7 && Nat.beq q9 8 && Nat.beq q10 0 && Nat.beq q11 0 && Nat.beq q12 1 && Nat.beq q13 0 then some (⟨k, m, ys, now, cnt⟩, ⟨i⟩) else none
  | _ => none
set_option maxHeartbeats 4000000 in
def irL (inv : irC → irX → irX → Nat → Prop) : LoopS where
  C := irC
  X := irX
  st := irSt
  un := irUn
  ok := by
    intro s c x h
    unfold irUn at h
    split at h
    · simp only [Bool.cond_eq_ite] at h
      split at h
      · rename_i hg
        simp only [Bool.and_eq_true, Nat.beq_eq] at hg
        obtain ⟨⟨⟨⟨⟨⟨⟨⟨⟨⟨⟨⟨⟨rfl, rfl⟩, rfl⟩, rfl⟩, rfl⟩, rfl⟩, rfl⟩, rfl⟩, rfl⟩, rfl⟩, rfl⟩, rfl⟩, rfl⟩, rfl⟩ := hg
        cases h
        rfl
      · cases h
    · cases h
  inv := inv

structure igC where
  k : Nat
  m : Nat
  ys : List (List V)
  c1 : Int
  i1 : Int
  k1 : Int
  u1 : Int
  cnt : Int
structure igX where
  i : Int
def igSt (c : igC) (x : igX) : St := ⟨[(0, .ref 0 0 c.k c.m), (1, .func 83 [] [.ptr 1 0 0]), (7, .int .i64 c.cnt), (8, .int .i64 x.i)], [(0, ⟨true, false, true, c.ys, 0⟩), (1, ⟨true, true, true, [[.int .i64 c.c1, .int .i64 c.i1, .int .i64 c.k1, .int .i64 c.u1]], 0⟩)]⟩
set_option maxHeartbeats 4000000 in
def igUn (s : St) : Option (igC × igX) :=
  match s with
  | ⟨[(q0, .ref q1 q2 k m), (q3, .func q4 [] [.ptr q5 q6 q7]), (q8, .int .i64 cnt), (q9, .int .i64 i)], [(q10, ⟨true, false, true, ys, q11⟩), (q12, ⟨true, true, true, [[.int .i64 c1, .int .i64 i1, .int .i64 k1, .int .i64 u1]], q13⟩)]⟩ => bif Nat.beq q0 0 && Nat.beq q1 0 && Nat.beq q2 0 && Nat.beq q3 1 && Nat.beq q4 83 && Nat.beq q5 1 && Nat.beq q6 0 && Nat.beq q7 0 && Nat.beq q8 7 && Nat.beq q9 8 && Nat.beq q10 0 && Nat.beq q11 0 && Nat.beq q12 1 && Nat.beq q13 0 then some (⟨k, m, ys, c1, i1, k1, u1, cnt⟩, ⟨i⟩) else none
  | _ => none
set_option maxHeartbeats 4000000 in
def igL (inv : igC → igX → igX → Nat → Prop) : LoopS where
  C := igC
  X := igX
  st := igSt
  un := igUn
  ok := by
    intro s c x h
    unfold igUn at h
    split at h
    · simp only [Bool.cond_eq_ite] at h
      split at h
      · rename_i hg
        simp only [Bool.and_eq_true, Nat.beq_eq] at hg
        obtain ⟨⟨⟨⟨⟨⟨⟨⟨⟨⟨⟨⟨⟨rfl, rfl⟩, rfl⟩, rfl⟩, rfl⟩, rfl⟩, rfl⟩, rfl⟩, rfl⟩, rfl⟩, rfl⟩, rfl⟩, rfl⟩, rfl⟩ := hg
        cases h
        rfl
      · cases h
    · cases h
  inv := inv

structure ivC where
  ys : List (List V)
  id : Int
  conn : Int
  now : Int
  kind : Int
  cnt : Int
structure ivX where
  i : Int
def ivSt (c : ivC) (x : ivX) : St := ⟨[(0, .lst c.ys), (1, .func 92 [] [.ptr 0 0 0, .ptr 1 0 0, .ptr 2 0 0, .ptr 3 0 0]), (7, .int .i64 c.cnt), (8, .int .i64 x.i)], [(0, ⟨true, true, true, [[.int .i64 c.id]], 0⟩), (1, ⟨true, true, true, [[.int .i64 c.conn]], 0⟩), (2, ⟨true, true, true, [[.int .i64 c.now]], 0⟩), (3, ⟨true, true, true, [[.int .i64 c.kind]], 0⟩)]⟩
set_option maxHeartbeats 4000000 in
def ivUn (s : St) : Option (ivC × ivX) :=
  match s with
  | ⟨[(q0, .lst ys), (q1, .func q2 [] [.ptr q3 q4 q5, .ptr q6 q7 q8, .ptr q9 q10 q11, .ptr q12 q13 q14]), (q15, .int .i64 cnt), (q16, .int .i64 i)], [(q17, ⟨true, true, true, [[.int .i64 id]], q18⟩), (q19, ⟨true, true, true, [[.int .i64 conn]], q20⟩), (q21, ⟨true, true, true, [[.int .i64 now]], q22⟩), (q23, ⟨true, true, true, [[.int .i64 kind]], q24⟩)]⟩ => bif Nat.beq q0 0 && Nat.beq q1 1 && Nat.beq q2 92 && Nat.beq q3 0 && Nat.beq q4 0 && Nat.beq q5 0 && Nat.beq q6 1 && Nat.beq q7 0 && Nat.beq q8 0 && Nat.beq q9 2 && Nat.beq q10 0 && Nat.beq q11 0 && Nat.beq q12 3 && Nat.beq q13 0 && Nat.beq q14 0 && Nat.beq q15 7 && Nat.beq q16 8 && Nat.beq q17 0 && Nat.beq q18 0 && Nat.beq q19 1 && Nat.beq q20 0 && Nat.beq q21 2 && Nat.beq q22 0 && Nat.beq q23 3 && Nat.beq q24 0 then some (⟨ys, id, conn, now, kind, cnt⟩, ⟨i⟩) else none
  | _ => none
set_option maxHeartbeats 4000000 in
def ivL (inv : ivC → ivX → ivX → Nat → Prop) : LoopS where
  C := ivC
  X := ivX
  st := ivSt
  un := ivUn
  ok := by
    intro s c x h
    unfold ivUn at h
    split at h
    · simp only [Bool.cond_eq_ite] at h
      split at h
      · rename_i hg
        simp only [Bool.and_eq_true, Nat.beq_eq] at hg
        obtain ⟨⟨⟨⟨⟨⟨⟨⟨⟨⟨⟨⟨⟨⟨⟨⟨⟨⟨⟨⟨⟨⟨⟨⟨rfl, rfl⟩, rfl⟩, rfl⟩, rfl⟩, rfl⟩, rfl⟩, rfl⟩, rfl⟩, rfl⟩, rfl⟩, rfl⟩, rfl⟩, rfl⟩, rfl⟩, rfl⟩, rfl⟩, rfl⟩, rfl⟩, rfl⟩, rfl⟩, rfl⟩, rfl⟩, rfl⟩, rfl⟩ := hg
        cases h
        rfl
      · cases h
    · cases h
  inv := inv

structure ibC where
  ys : List (List V)
  id : Int
  conn : Int
  now : Int
  kind : Int
  cnt : Int
structure ibX where
  i : Int
def ibSt (c : ibC) (x : ibX) : St := ⟨[(0, .lst c.ys), (1, .func 93 [] [.ptr 0 0 0, .ptr 1 0 0, .ptr 2 0 0, .ptr 3 0 0]), (7, .int .i64 c.cnt), (8, .int .i64 x.i)], [(0, ⟨true, true, true, [[.int .i64 c.id]], 0⟩), (1, ⟨true, true, true, [[.int .i64 c.conn]], 0⟩), (2, ⟨true, true, true, [[.int .i64 c.now]], 0⟩), (3, ⟨true, true, true, [[.int .i64 c.kind]], 0⟩)]⟩
set_option maxHeartbeats 4000000 in
def ibUn (s : St) : Option (ibC × ibX) :=
  match s with
  | ⟨[(q0, .lst ys), (q1, .func q2 [] [.ptr q3 q4 q5, .ptr q6 q7 q8, .ptr q9 q10 q11, .ptr q12 q13 q14]), (q15, .int .i64 cnt), (q16, .int .i64 i)], [(q17, ⟨true, true, true, [[.int .i64 id]], q18⟩), (q19, ⟨true, true, true, [[.int .i64 conn]], q20⟩), (q21, ⟨true, true, true, [[.int .i64 now]], q22⟩), (q23, ⟨true, true, true, [[.int .i64 kind]], q24⟩)]⟩ => bif Nat.beq q0 0 && Nat.beq q1 1 && Nat.beq q2 93 && Nat.beq q3 0 && Nat.beq q4 0 && Nat.beq q5 0 && Nat.beq q6 1 && Nat.beq q7 0 && Nat.beq q8 0 && Nat.beq q9 2 && Nat.beq q10 0 && Nat.beq q11 0 && Nat.beq q12 3 && Nat.beq q13 0 && Nat.beq q14 0 && Nat.beq q15 7 && Nat.beq q16 8 && Nat.beq q17 0 && Nat.beq q18 0 && Nat.beq q19 1 && Nat.beq q20 0 && Nat.beq q21 2 && Nat.beq q22 0 && Nat.beq q23 3 && Nat.beq q24 0 then some (⟨ys, id, conn, now, kind, cnt⟩, ⟨i⟩) else none
  | _ => none
set_option maxHeartbeats 4000000 in
def ibL (inv : ibC → ibX → ibX → Nat → Prop) : LoopS where
  C := ibC
  X := ibX
  st := ibSt
  un := ibUn
  ok := by
    intro s c x h
    unfold ibUn at h
    split at h
    · simp only [Bool.cond_eq_ite] at h
      split at h
      · rename_i hg
        simp only [Bool.and_eq_true, Nat.beq_eq] at hg
        obtain ⟨⟨⟨⟨⟨⟨⟨⟨⟨⟨⟨⟨⟨⟨⟨⟨⟨⟨⟨⟨⟨⟨⟨⟨rfl, rfl⟩, rfl⟩, rfl⟩, rfl⟩, rfl⟩, rfl⟩, rfl⟩, rfl⟩, rfl⟩, rfl⟩, rfl⟩, rfl⟩, rfl⟩, rfl⟩, rfl⟩, rfl⟩, rfl⟩, rfl⟩, rfl⟩, rfl⟩, rfl⟩, rfl⟩, rfl⟩, rfl⟩ := hg
        cases h
        rfl
      · cases h
    · cases h
  inv := inv

theorem ir_vc [MaxL] (k m : Nat) (ys : List (List V)) (now : Int) (I : irC → irX → irX → Nat → Prop) (K : V → List Bk → Prop) : vcF Tryz.prog cfgN (ctOf [(155, c1Con)]) (lpOf [(2, irL I)]) 156 [.ref 0 0 k m, .func 155 [] [.ptr 1 0 0]] [⟨true, false, true, ys, 0⟩, ⟨true, true, true, [[.int .i64 now]], 0⟩] K = (
  (∃ m7 : Nat, (((m7 : Nat) < 18446744073709551616)) ∧ (
  I (irC.mk k m ys now (Int.ofNat k)) (irX.mk 0) (irX.mk 0) m7)) ∧ (
  ∀ x7 : (irL I).X, ∀ m8 : Nat, (I (irC.mk k m ys now (Int.ofNat k)) (irX.mk 0) x7 m8) → (
  br (ltI x7.1 (Int.ofNat k)) (
    need (andB (leI 0 x7.1) (ltI x7.1 (Int.ofNat k))) (
    need (okRow ys (0 + x7.1.toNat) 4) (
    ∃ n9 : Int, ∃ n10 : Int, ∃ n11 : Int, ∃ n12 : Int, ((partAt ys (0 + x7.1.toNat) 0 4 : Option (List V)) = some [V.int IntKind.i64 n9, V.int IntKind.i64 n10, V.int IntKind.i64 n11, V.int IntKind.i64 n12]) ∧ (
    ∃ x13 : Lease, (([V.int IntKind.i64 n9, V.int IntKind.i64 n10, V.int IntKind.i64 n11, V.int IntKind.i64 n12] : List V) = [V.int IntKind.i64 x13.1, V.int IntKind.i64 x13.2, V.int IntKind.i64 x13.3, V.int IntKind.i64 x13.4]) ∧ (
    br (exF now x13) (
      K (V.int IntKind.i64 x7.1) [Bk.mk true false true ys 0, Bk.mk true true true [[V.int IntKind.i64 now]] 0]) (
      ((irC.mk k m ys now (Int.ofNat k) : (irL I).C) = irC.mk k m ys now (Int.ofNat k)) ∧ (
      ∃ m'14 : Nat, (((m'14 : Nat) < m8)) ∧ (
      I (irC.mk k m ys now (Int.ofNat k)) (irX.mk 0) (irX.mk (addI IntKind.i64 x7.1 1)) m'14)))))))) (
    K (V.int IntKind.i64 (-1)) [Bk.mk true false true ys 0, Bk.mk true true true [[V.int IntKind.i64 now]] 0])))) := by kernel_rfl

theorem ig_vc [MaxL] (k m : Nat) (ys : List (List V)) (c1 i1 k1 u1 : Int) (I : igC → igX → igX → Nat → Prop) (K : V → List Bk → Prop) : vcF Tryz.prog cfgN (ctOf [(83, g1Con)]) (lpOf [(2, igL I)]) 156 [.ref 0 0 k m, .func 83 [] [.ptr 1 0 0]] [⟨true, false, true, ys, 0⟩, ⟨true, true, true, [[.int .i64 c1, .int .i64 i1, .int .i64 k1, .int .i64 u1]], 0⟩] K = (
  (∃ m10 : Nat, (((m10 : Nat) < 18446744073709551616)) ∧ (
  I (igC.mk k m ys c1 i1 k1 u1 (Int.ofNat k)) (igX.mk 0) (igX.mk 0) m10)) ∧ (
  ∀ x10 : (igL I).X, ∀ m11 : Nat, (I (igC.mk k m ys c1 i1 k1 u1 (Int.ofNat k)) (igX.mk 0) x10 m11) → (
  br (ltI x10.1 (Int.ofNat k)) (
    need (andB (leI 0 x10.1) (ltI x10.1 (Int.ofNat k))) (
    need (okRow ys (0 + x10.1.toNat) 4) (
    ∃ n12 : Int, ∃ n13 : Int, ∃ n14 : Int, ∃ n15 : Int, ((partAt ys (0 + x10.1.toNat) 0 4 : Option (List V)) = some [V.int IntKind.i64 n12, V.int IntKind.i64 n13, V.int IntKind.i64 n14, V.int IntKind.i64 n15]) ∧ (
    ∃ x16 : Lease, (([V.int IntKind.i64 n12, V.int IntKind.i64 n13, V.int IntKind.i64 n14, V.int IntKind.i64 n15] : List V) = [V.int IntKind.i64 x16.1, V.int IntKind.i64 x16.2, V.int IntKind.i64 x16.3, V.int IntKind.i64 x16.4]) ∧ (
    br (cfF (Lease.mk c1 i1 k1 u1) x16) (
      K (V.int IntKind.i64 x10.1) [Bk.mk true false true ys 0, Bk.mk true true true [[V.int IntKind.i64 c1, V.int IntKind.i64 i1, V.int IntKind.i64 k1, V.int IntKind.i64 u1]] 0]) (
      ((igC.mk k m ys c1 i1 k1 u1 (Int.ofNat k) : (igL I).C) = igC.mk k m ys c1 i1 k1 u1 (Int.ofNat k)) ∧ (
      ∃ m'17 : Nat, (((m'17 : Nat) < m11)) ∧ (
      I (igC.mk k m ys c1 i1 k1 u1 (Int.ofNat k)) (igX.mk 0) (igX.mk (addI IntKind.i64 x10.1 1)) m'17)))))))) (
    K (V.int IntKind.i64 (-1)) [Bk.mk true false true ys 0, Bk.mk true true true [[V.int IntKind.i64 c1, V.int IntKind.i64 i1, V.int IntKind.i64 k1, V.int IntKind.i64 u1]] 0])))) := by kernel_rfl

theorem iv_vc [MaxL] (ys : List (List V)) (id conn now kind : Int) (I : ivC → ivX → ivX → Nat → Prop) (K : V → List Bk → Prop) : vcF Tryz.prog cfgN (ctOf [(92, v1Con)]) (lpOf [(2, ivL I)]) 156 [.lst ys, .func 92 [] [.ptr 0 0 0, .ptr 1 0 0, .ptr 2 0 0, .ptr 3 0 0]] [⟨true, true, true, [[.int .i64 id]], 0⟩, ⟨true, true, true, [[.int .i64 conn]], 0⟩, ⟨true, true, true, [[.int .i64 now]], 0⟩, ⟨true, true, true, [[.int .i64 kind]], 0⟩] K = (
  (∃ m8 : Nat, (((m8 : Nat) < 18446744073709551616)) ∧ (
  I (ivC.mk ys id conn now kind (lenL ys)) (ivX.mk 0) (ivX.mk 0) m8)) ∧ (
  ∀ x8 : (ivL I).X, ∀ m9 : Nat, (I (ivC.mk ys id conn now kind (lenL ys)) (ivX.mk 0) x8 m9) → (
  br (ltI x8.1 (lenL ys)) (
    need (andB (leI 0 x8.1) (ltI x8.1 (lenL ys))) (
    need (okRow ys x8.1.toNat 4) (
    ∃ n10 : Int, ∃ n11 : Int, ∃ n12 : Int, ∃ n13 : Int, ((sub (rowAt ys x8.1) 0 4 : Option (List V)) = some [V.int IntKind.i64 n10, V.int IntKind.i64 n11, V.int IntKind.i64 n12, V.int IntKind.i64 n13]) ∧ (
    ∃ x14 : Lease, (([V.int IntKind.i64 n10, V.int IntKind.i64 n11, V.int IntKind.i64 n12, V.int IntKind.i64 n13] : List V) = [V.int IntKind.i64 x14.1, V.int IntKind.i64 x14.2, V.int IntKind.i64 x14.3, V.int IntKind.i64 x14.4]) ∧ (
    br (vaF conn id kind now x14) (
      K (V.int IntKind.i64 x8.1) [Bk.mk true true true [[V.int IntKind.i64 id]] 0, Bk.mk true true true [[V.int IntKind.i64 conn]] 0, Bk.mk true true true [[V.int IntKind.i64 now]] 0, Bk.mk true true true [[V.int IntKind.i64 kind]] 0]) (
      ((ivC.mk ys id conn now kind (lenL ys) : (ivL I).C) = ivC.mk ys id conn now kind (lenL ys)) ∧ (
      ∃ m'15 : Nat, (((m'15 : Nat) < m9)) ∧ (
      I (ivC.mk ys id conn now kind (lenL ys)) (ivX.mk 0) (ivX.mk (addI IntKind.i64 x8.1 1)) m'15)))))))) (
    K (V.int IntKind.i64 (-1)) [Bk.mk true true true [[V.int IntKind.i64 id]] 0, Bk.mk true true true [[V.int IntKind.i64 conn]] 0, Bk.mk true true true [[V.int IntKind.i64 now]] 0, Bk.mk true true true [[V.int IntKind.i64 kind]] 0])))) := by kernel_rfl

theorem ib_vc [MaxL] (ys : List (List V)) (id conn now kind : Int) (I : ibC → ibX → ibX → Nat → Prop) (K : V → List Bk → Prop) : vcF Tryz.prog cfgN (ctOf [(93, b1Con)]) (lpOf [(2, ibL I)]) 156 [.lst ys, .func 93 [] [.ptr 0 0 0, .ptr 1 0 0, .ptr 2 0 0, .ptr 3 0 0]] [⟨true, true, true, [[.int .i64 id]], 0⟩, ⟨true, true, true, [[.int .i64 conn]], 0⟩, ⟨true, true, true, [[.int .i64 now]], 0⟩, ⟨true, true, true, [[.int .i64 kind]], 0⟩] K = (
  (∃ m8 : Nat, (((m8 : Nat) < 18446744073709551616)) ∧ (
  I (ibC.mk ys id conn now kind (lenL ys)) (ibX.mk 0) (ibX.mk 0) m8)) ∧ (
  ∀ x8 : (ibL I).X, ∀ m9 : Nat, (I (ibC.mk ys id conn now kind (lenL ys)) (ibX.mk 0) x8 m9) → (
  br (ltI x8.1 (lenL ys)) (
    need (andB (leI 0 x8.1) (ltI x8.1 (lenL ys))) (
    need (okRow ys x8.1.toNat 4) (
    ∃ n10 : Int, ∃ n11 : Int, ∃ n12 : Int, ∃ n13 : Int, ((sub (rowAt ys x8.1) 0 4 : Option (List V)) = some [V.int IntKind.i64 n10, V.int IntKind.i64 n11, V.int IntKind.i64 n12, V.int IntKind.i64 n13]) ∧ (
    ∃ x14 : Lease, (([V.int IntKind.i64 n10, V.int IntKind.i64 n11, V.int IntKind.i64 n12, V.int IntKind.i64 n13] : List V) = [V.int IntKind.i64 x14.1, V.int IntKind.i64 x14.2, V.int IntKind.i64 x14.3, V.int IntKind.i64 x14.4]) ∧ (
    br (blF conn id kind now x14) (
      K (V.int IntKind.i64 x8.1) [Bk.mk true true true [[V.int IntKind.i64 id]] 0, Bk.mk true true true [[V.int IntKind.i64 conn]] 0, Bk.mk true true true [[V.int IntKind.i64 now]] 0, Bk.mk true true true [[V.int IntKind.i64 kind]] 0]) (
      ((ibC.mk ys id conn now kind (lenL ys) : (ibL I).C) = ibC.mk ys id conn now kind (lenL ys)) ∧ (
      ∃ m'15 : Nat, (((m'15 : Nat) < m9)) ∧ (
      I (ibC.mk ys id conn now kind (lenL ys)) (ibX.mk 0) (ibX.mk (addI IntKind.i64 x8.1 1)) m'15)))))))) (
    K (V.int IntKind.i64 (-1)) [Bk.mk true true true [[V.int IntKind.i64 id]] 0, Bk.mk true true true [[V.int IntKind.i64 conn]] 0, Bk.mk true true true [[V.int IntKind.i64 now]] 0, Bk.mk true true true [[V.int IntKind.i64 kind]] 0])))) := by kernel_rfl

end Go.Proofs.YthhpdnlfhofanaaGreatDoor
namespace Go.Proofs.YthhpdnlfhofanaaGreatDoor
open Go.RowKit
set_option maxRecDepth 100000
set_option linter.unusedVariables false
set_option linter.unusedSimpArgs false
theorem idx_hit {p : Lease → Bool} {l : List Lease} {j : Nat} {x : Lease} (h : ∀ y ∈ l.take j, p y = false) (hx : l[j]? = some x) (g : p x = true) : isIdx p l j := Or.inr ⟨j, rfl, h, x, hx, g⟩
theorem idx_end {p : Lease → Bool} {l : List Lease} (h : ∀ y ∈ l, p y = false) : isIdx p l (-1) := Or.inl ⟨rfl, h⟩
def irCon : Con := fun vs bs K => match vs, bs with
  | [.ref 0 0 k m, .func 155 [] [.ptr 1 0 0]], [⟨true, false, true, ys, 0⟩, ⟨true, true, true, [[.int .i64 now]], 0⟩] => ∃ L : List Lease, ys = leaseV L ∧ k ≤ L.length ∧ L.length ≤ 100000 ∧ ∀ i, isIdx (exF now) (L.take k) i → K (.int .i64 i) [⟨true, false, true, ys, 0⟩, ⟨true, true, true, [[.int .i64 now]], 0⟩]
  | _, _ => False
theorem ir_con [MaxL] {n : Nat} (hn : 2 ≤ n) : ConOk (evalF Tryz.prog cfgN n) 156 irCon := by
  intro vs bs K h
  unfold irCon at h
  split at h
  · rename_i k m ys now
    obtain ⟨L, rfl, hk, hb, hK⟩ := h
    refine run_of (lp := lpOf [(2, irL fun _ _ x m => ∃ j : Nat, x.i = (j : Int) ∧ j + m = k ∧ ∀ y ∈ (L.take k).take j, (exF now) y = false)]) (by omega) (ct := ctOf [(155, c1Con)]) (fun q hq => ctOf_ok (ctOf_cons (c1_con (by omega)) (ctOf_nil _))) ?_
    rw [ir_vc]
    refine ⟨⟨k, by omega, 0, rfl, by omega, by simp⟩, ?_⟩
    rintro ⟨i⟩ m' ⟨j, rfl, hj, hp⟩
    dsimp only
    rw [br_iff]
    refine ⟨fun hlt => ?_, fun hge => ?_⟩
    · have hlt : j < k := by simp only [br_iff, need_iff, andB_t, andB_f, orB_t, orB_f, notB_t, notB_f, leI_t, leI_f, ltI_t, ltI_f, eqI_t, eqI_f, leN_t, leN_f, eqN_t, eqN_f, eqS_t, eqS_f, eqB_t, eqB_f, catOk_t, leC_t, Int.ofNat_eq_natCast] at hlt; omega
      obtain ⟨x, hx⟩ : ∃ x, L[j]? = some x := ⟨_, List.getElem?_eq_getElem (by omega)⟩
      have hT : (L.take k)[j]? = some x := by rw [List.getElem?_take_of_lt hlt]; exact hx
      rw [need_iff]; refine ⟨by simp only [br_iff, need_iff, andB_t, andB_f, orB_t, orB_f, notB_t, notB_f, leI_t, leI_f, ltI_t, ltI_f, eqI_t, eqI_f, leN_t, leN_f, eqN_t, eqN_f, eqS_t, eqS_f, eqB_t, eqB_f, catOk_t, leC_t, Int.ofNat_eq_natCast]; omega, ?_⟩
      rw [need_iff]; refine ⟨by simpa using leaseV_ok (l := L) (i := j) (by omega), ?_⟩
      refine ⟨x.conn, x.id, x.kind, x.til, by simp only [Nat.zero_add, Int.toNat_natCast, leaseV_part hx]; rfl, x, rfl, ?_⟩
      rw [br_iff]
      refine ⟨fun g => hK _ (idx_hit hp hT g), fun g => ⟨by trivial, m' - 1, by omega, j + 1, by rw [addI_i64 (by omega) (by omega)]; omega, by omega, no_snoc hp hT g⟩⟩
    · have : j = k := by simp only [br_iff, need_iff, andB_t, andB_f, orB_t, orB_f, notB_t, notB_f, leI_t, leI_f, ltI_t, ltI_f, eqI_t, eqI_f, leN_t, leN_f, eqN_t, eqN_f, eqS_t, eqS_f, eqB_t, eqB_f, catOk_t, leC_t, Int.ofNat_eq_natCast] at hge; omega
      subst this
      exact hK _ (idx_end (fun y hy => hp y (by rw [List.take_take, Nat.min_self]; exact hy)))
  · exact h.elim
def igCon : Con := fun vs bs K => match vs, bs with
  | [.ref 0 0 k m, .func 83 [] [.ptr 1 0 0]], [⟨true, false, true, ys, 0⟩, ⟨true, true, true, [[.int .i64 c1, .int .i64 i1, .int .i64 k1, .int .i64 u1]], 0⟩] => ∃ L : List Lease, ys = leaseV L ∧ k ≤ L.length ∧ L.length ≤ 100000 ∧ ∀ i, isIdx (cfF ⟨c1, i1, k1, u1⟩) (L.take k) i → K (.int .i64 i) [⟨true, false, true, ys, 0⟩, ⟨true, true, true, [[.int .i64 c1, .int .i64 i1, .int .i64 k1, .int .i64 u1]], 0⟩]
  | _, _ => False
theorem ig_con [MaxL] {n : Nat} (hn : 3 ≤ n) : ConOk (evalF Tryz.prog cfgN n) 156 igCon := by
  intro vs bs K h
  unfold igCon at h
  split at h
  · rename_i k m ys c1 i1 k1 u1
    obtain ⟨L, rfl, hk, hb, hK⟩ := h
    refine run_of (lp := lpOf [(2, igL fun _ _ x m => ∃ j : Nat, x.i = (j : Int) ∧ j + m = k ∧ ∀ y ∈ (L.take k).take j, (cfF ⟨c1, i1, k1, u1⟩) y = false)]) (by omega) (ct := ctOf [(83, g1Con)]) (fun q hq => ctOf_ok (ctOf_cons (g1_con (by omega)) (ctOf_nil _))) ?_
    rw [ig_vc]
    refine ⟨⟨k, by omega, 0, rfl, by omega, by simp⟩, ?_⟩
    rintro ⟨i⟩ m' ⟨j, rfl, hj, hp⟩
    dsimp only
    rw [br_iff]
    refine ⟨fun hlt => ?_, fun hge => ?_⟩
    · have hlt : j < k := by simp only [br_iff, need_iff, andB_t, andB_f, orB_t, orB_f, notB_t, notB_f, leI_t, leI_f, ltI_t, ltI_f, eqI_t, eqI_f, leN_t, leN_f, eqN_t, eqN_f, eqS_t, eqS_f, eqB_t, eqB_f, catOk_t, leC_t, Int.ofNat_eq_natCast] at hlt; omega
      obtain ⟨x, hx⟩ : ∃ x, L[j]? = some x := ⟨_, List.getElem?_eq_getElem (by omega)⟩
      have hT : (L.take k)[j]? = some x := by rw [List.getElem?_take_of_lt hlt]; exact hx
      rw [need_iff]; refine ⟨by simp only [br_iff, need_iff, andB_t, andB_f, orB_t, orB_f, notB_t, notB_f, leI_t, leI_f, ltI_t, ltI_f, eqI_t, eqI_f, leN_t, leN_f, eqN_t, eqN_f, eqS_t, eqS_f, eqB_t, eqB_f, catOk_t, leC_t, Int.ofNat_eq_natCast]; omega, ?_⟩
      rw [need_iff]; refine ⟨by simpa using leaseV_ok (l := L) (i := j) (by omega), ?_⟩
      refine ⟨x.conn, x.id, x.kind, x.til, by simp only [Nat.zero_add, Int.toNat_natCast, leaseV_part hx]; rfl, x, rfl, ?_⟩
      rw [br_iff]
      refine ⟨fun g => hK _ (idx_hit hp hT g), fun g => ⟨by trivial, m' - 1, by omega, j + 1, by rw [addI_i64 (by omega) (by omega)]; omega, by omega, no_snoc hp hT g⟩⟩
    · have : j = k := by simp only [br_iff, need_iff, andB_t, andB_f, orB_t, orB_f, notB_t, notB_f, leI_t, leI_f, ltI_t, ltI_f, eqI_t, eqI_f, leN_t, leN_f, eqN_t, eqN_f, eqS_t, eqS_f, eqB_t, eqB_f, catOk_t, leC_t, Int.ofNat_eq_natCast] at hge; omega
      subst this
      exact hK _ (idx_end (fun y hy => hp y (by rw [List.take_take, Nat.min_self]; exact hy)))
  · exact h.elim
def ivCon : Con := fun vs bs K => match vs, bs with
  | [.lst ys, .func 92 [] [.ptr 0 0 0, .ptr 1 0 0, .ptr 2 0 0, .ptr 3 0 0]], [⟨true, true, true, [[.int .i64 id]], 0⟩, ⟨true, true, true, [[.int .i64 conn]], 0⟩, ⟨true, true, true, [[.int .i64 now]], 0⟩, ⟨true, true, true, [[.int .i64 kind]], 0⟩] => ∃ L : List Lease, ys = leaseV L ∧ L.length ≤ 100000 ∧ ∀ i, isIdx (vaF conn id kind now) L i → K (.int .i64 i) [⟨true, true, true, [[.int .i64 id]], 0⟩, ⟨true, true, true, [[.int .i64 conn]], 0⟩, ⟨true, true, true, [[.int .i64 now]], 0⟩, ⟨true, true, true, [[.int .i64 kind]], 0⟩]
  | _, _ => False
theorem iv_con [MaxL] {n : Nat} (hn : 2 ≤ n) : ConOk (evalF Tryz.prog cfgN n) 156 ivCon := by
  intro vs bs K h
  unfold ivCon at h
  split at h
  · rename_i ys id conn now kind
    obtain ⟨L, rfl, hb, hK⟩ := h
    refine run_of (lp := lpOf [(2, ivL fun _ _ x m => ∃ j : Nat, x.i = (j : Int) ∧ j + m = L.length ∧ ∀ y ∈ L.take j, (vaF conn id kind now) y = false)]) (by omega) (ct := ctOf [(92, v1Con)]) (fun q hq => ctOf_ok (ctOf_cons (v1_con (by omega)) (ctOf_nil _))) ?_
    rw [iv_vc]
    simp only [leaseV_lenL]
    refine ⟨⟨L.length, by omega, 0, rfl, by omega, by simp⟩, ?_⟩
    rintro ⟨i⟩ m' ⟨j, rfl, hj, hp⟩
    dsimp only
    rw [br_iff]
    refine ⟨fun hlt => ?_, fun hge => ?_⟩
    · have hlt : j < L.length := by simp only [br_iff, need_iff, andB_t, andB_f, orB_t, orB_f, notB_t, notB_f, leI_t, leI_f, ltI_t, ltI_f, eqI_t, eqI_f, leN_t, leN_f, eqN_t, eqN_f, eqS_t, eqS_f, eqB_t, eqB_f, catOk_t, leC_t, Int.ofNat_eq_natCast] at hlt; omega
      obtain ⟨x, hx⟩ : ∃ x, L[j]? = some x := ⟨_, List.getElem?_eq_getElem (by omega)⟩
      have hT : L[j]? = some x := by exact hx
      rw [need_iff]; refine ⟨by simp only [br_iff, need_iff, andB_t, andB_f, orB_t, orB_f, notB_t, notB_f, leI_t, leI_f, ltI_t, ltI_f, eqI_t, eqI_f, leN_t, leN_f, eqN_t, eqN_f, eqS_t, eqS_f, eqB_t, eqB_f, catOk_t, leC_t, Int.ofNat_eq_natCast]; omega, ?_⟩
      rw [need_iff]; refine ⟨by simpa using leaseV_ok (l := L) (i := j) (by omega), ?_⟩
      refine ⟨x.conn, x.id, x.kind, x.til, by rw [leaseV_row hx]; rfl, x, rfl, ?_⟩
      rw [br_iff]
      refine ⟨fun g => hK _ (idx_hit hp hT g), fun g => ⟨by trivial, m' - 1, by omega, j + 1, by rw [addI_i64 (by omega) (by omega)]; omega, by omega, no_snoc hp hT g⟩⟩
    · have : j = L.length := by simp only [br_iff, need_iff, andB_t, andB_f, orB_t, orB_f, notB_t, notB_f, leI_t, leI_f, ltI_t, ltI_f, eqI_t, eqI_f, leN_t, leN_f, eqN_t, eqN_f, eqS_t, eqS_f, eqB_t, eqB_f, catOk_t, leC_t, Int.ofNat_eq_natCast] at hge; omega
      subst this
      exact hK _ (idx_end (fun y hy => hp y (by simpa using hy)))
  · exact h.elim
def ibCon : Con := fun vs bs K => match vs, bs with
  | [.lst ys, .func 93 [] [.ptr 0 0 0, .ptr 1 0 0, .ptr 2 0 0, .ptr 3 0 0]], [⟨true, true, true, [[.int .i64 id]], 0⟩, ⟨true, true, true, [[.int .i64 conn]], 0⟩, ⟨true, true, true, [[.int .i64 now]], 0⟩, ⟨true, true, true, [[.int .i64 kind]], 0⟩] => ∃ L : List Lease, ys = leaseV L ∧ L.length ≤ 100000 ∧ ∀ i, isIdx (blF conn id kind now) L i → K (.int .i64 i) [⟨true, true, true, [[.int .i64 id]], 0⟩, ⟨true, true, true, [[.int .i64 conn]], 0⟩, ⟨true, true, true, [[.int .i64 now]], 0⟩, ⟨true, true, true, [[.int .i64 kind]], 0⟩]
  | _, _ => False
theorem ib_con [MaxL] {n : Nat} (hn : 2 ≤ n) : ConOk (evalF Tryz.prog cfgN n) 156 ibCon := by
  intro vs bs K h
  unfold ibCon at h
  split at h
  · rename_i ys id conn now kind
    obtain ⟨L, rfl, hb, hK⟩ := h
    refine run_of (lp := lpOf [(2, ibL fun _ _ x m => ∃ j : Nat, x.i = (j : Int) ∧ j + m = L.length ∧ ∀ y ∈ L.take j, (blF conn id kind now) y = false)]) (by omega) (ct := ctOf [(93, b1Con)]) (fun q hq => ctOf_ok (ctOf_cons (b1_con (by omega)) (ctOf_nil _))) ?_
    rw [ib_vc]
    simp only [leaseV_lenL]
    refine ⟨⟨L.length, by omega, 0, rfl, by omega, by simp⟩, ?_⟩
    rintro ⟨i⟩ m' ⟨j, rfl, hj, hp⟩
    dsimp only
    rw [br_iff]
    refine ⟨fun hlt => ?_, fun hge => ?_⟩
    · have hlt : j < L.length := by simp only [br_iff, need_iff, andB_t, andB_f, orB_t, orB_f, notB_t, notB_f, leI_t, leI_f, ltI_t, ltI_f, eqI_t, eqI_f, leN_t, leN_f, eqN_t, eqN_f, eqS_t, eqS_f, eqB_t, eqB_f, catOk_t, leC_t, Int.ofNat_eq_natCast] at hlt; omega
      obtain ⟨x, hx⟩ : ∃ x, L[j]? = some x := ⟨_, List.getElem?_eq_getElem (by omega)⟩
      have hT : L[j]? = some x := by exact hx
      rw [need_iff]; refine ⟨by simp only [br_iff, need_iff, andB_t, andB_f, orB_t, orB_f, notB_t, notB_f, leI_t, leI_f, ltI_t, ltI_f, eqI_t, eqI_f, leN_t, leN_f, eqN_t, eqN_f, eqS_t, eqS_f, eqB_t, eqB_f, catOk_t, leC_t, Int.ofNat_eq_natCast]; omega, ?_⟩
      rw [need_iff]; refine ⟨by simpa using leaseV_ok (l := L) (i := j) (by omega), ?_⟩
      refine ⟨x.conn, x.id, x.kind, x.til, by rw [leaseV_row hx]; rfl, x, rfl, ?_⟩
      rw [br_iff]
      refine ⟨fun g => hK _ (idx_hit hp hT g), fun g => ⟨by trivial, m' - 1, by omega, j + 1, by rw [addI_i64 (by omega) (by omega)]; omega, by omega, no_snoc hp hT g⟩⟩
    · have : j = L.length := by simp only [br_iff, need_iff, andB_t, andB_f, orB_t, orB_f, notB_t, notB_f, leI_t, leI_f, ltI_t, ltI_f, eqI_t, eqI_f, leN_t, leN_f, eqN_t, eqN_f, eqS_t, eqS_f, eqB_t, eqB_f, catOk_t, leC_t, Int.ofNat_eq_natCast] at hge; omega
      subst this
      exact hK _ (idx_end (fun y hy => hp y (by simpa using hy)))
  · exact h.elim
end Go.Proofs.YthhpdnlfhofanaaGreatDoor
