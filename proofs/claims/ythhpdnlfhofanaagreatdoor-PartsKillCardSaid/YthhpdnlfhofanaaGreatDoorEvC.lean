/- VC: what must hold for code to end as wished, for values that are not known. -/
import Derived.Test.YthhpdnlfhofanaaGreatDoorEvA
namespace Go.Proofs.YthhpdnlfhofanaaGreatDoor
open Go.RowKit
set_option linter.unusedVariables false
/-- A check. -/
def need (b : Bool) (K : Prop) : Prop := bif b then K else False
/-- A branch. -/
def br (b : Bool) (A B : Prop) : Prop := bif b then A else B
theorem need_iff {b : Bool} {K : Prop} : need b K ↔ b = true ∧ K := by cases b <;> simp [need]
theorem br_iff {b : Bool} {A B : Prop} : br b A B ↔ (b = true → A) ∧ (b = false → B) := by cases b <;> simp [br]
-- what is kept folded
def ltI (a b : Int) : Bool := decide (a < b)
def leI (a b : Int) : Bool := decide (a ≤ b)
def eqI (a b : Int) : Bool := decide (a = b)
def leN (a b : Nat) : Bool := decide (a ≤ b)
def eqN (a b : Nat) : Bool := decide (a = b)
def addI (k : IntKind) (a b : Int) : Int := k.wrap (a + b)
def subI (k : IntKind) (a b : Int) : Int := k.wrap (a - b)
def mulI (k : IntKind) (a b : Int) : Int := k.wrap (a * b)
def quoI (k : IntKind) (a b : Int) : Int := k.wrap (a.tdiv b)
def remI (k : IntKind) (a b : Int) : Int := k.wrap (a.tmod b)
def andI (k : IntKind) (a b : Int) : Int := k.wrap (BitVec.ofInt k.bits a &&& BitVec.ofInt k.bits b).toNat
def orI (k : IntKind) (a b : Int) : Int := k.wrap (BitVec.ofInt k.bits a ||| BitVec.ofInt k.bits b).toNat
def xorI (k : IntKind) (a b : Int) : Int := k.wrap (BitVec.ofInt k.bits a ^^^ BitVec.ofInt k.bits b).toNat
def shlI (k : IntKind) (a b : Int) : Int := k.wrap (a * 2 ^ (min b.toNat k.bits))
def shrI (k : IntKind) (a b : Int) : Int := a.fdiv (2 ^ (min b.toNat k.bits))
def negI (k : IntKind) (a : Int) : Int := k.wrap (0 - a)
def wrapI (k : IntKind) (a : Int) : Int := k.wrap a
def eqS (a b : List UInt8) : Bool := strEq a b
def ltS (a b : List UInt8) : Bool := strLess a b
def catS (a b : List UInt8) : List UInt8 := a ++ b
def lenS (a : List UInt8) : Int := a.length
def lenL (a : List (List V)) : Int := a.length
def atS (s : List UInt8) (i : Int) : Int := ((s.getD i.toNat 0).toNat : Int)
def cutS (s : List UInt8) (l h : Int) : List UInt8 := (s.drop l.toNat).take (h.toNat - l.toNat)
def cutL (s : List (List V)) (l h : Int) : List (List V) := (s.drop l.toNat).take (h.toNat - l.toNat)
def rowAt (s : List (List V)) (i : Int) : List V := s.getD i.toNat []
def notB (a : Bool) : Bool := !a
def eqB (a b : Bool) : Bool := a == b
def orB (a b : Bool) : Bool := a || b
def andB (a b : Bool) : Bool := a && b
def isCons (xs : List (List V)) : Bool := match xs with
  | [] => false
  | _ :: _ => true
def minN (a b : Nat) : Nat := min a b
def minI (a b : Int) : Int := min a b
def maxI (a b : Int) : Int := max a b
def maxLen : Int := 9223372036854775807
/-- Two texts are not too long to be joined. (Nothing is to be reckoned here by itself.) -/
noncomputable def catOk (a b : List UInt8) : Bool := @decide ((a.length : Int) + b.length ≤ 9223372036854775807) (Classical.propDecidable _)
theorem catOk_t {a b : List UInt8} : (catOk a b = true) = ((a.length : Int) + b.length ≤ 9223372036854775807) := by simp [catOk]
/-- The same of numbers. -/
noncomputable def leC (a b : Int) : Bool := @decide (a ≤ b) (Classical.propDecidable _)
theorem leC_t {a b : Int} : (leC a b = true) = (a ≤ b) := by simp [leC]
/-- Cells of the kinds that some zero cells have. -/
def withZ : List V → (List V → Prop) → Prop
  | [], K => K []
  | .int k _ :: t, K => ∃ n : Int, withZ t fun c => K (.int k n :: c)
  | .str _ :: t, K => ∃ s : List UInt8, withZ t fun c => K (.str s :: c)
  | .bool _ :: t, K => ∃ b : Bool, withZ t fun c => K (.bool b :: c)
  | .nils :: t, K => ∃ xs : List (List V), withZ t fun c => K (.lst xs :: c)
  | _ :: _, _ => False
theorem withZ_run : ∀ {z : List V} {K : List V → Prop}, withZ z K → ∃ c, K c
  | [], K, h => ⟨[], h⟩
  | z :: t, K, h => by
    cases z <;> simp only [withZ] at h <;> first
      | (obtain ⟨n, h⟩ := h; obtain ⟨c, hc⟩ := withZ_run h; exact ⟨_, hc⟩)
      | cases h
abbrev KK := V → Upd → List Nat → Prop
section
variable (P : Program) (cfg : Cfg)
def vcInt (op : BinOp) (k : IntKind) (a b : Int) (K : V → Prop) : Prop :=
  match op with
  | .add => K (.int k (addI k a b))
  | .sub => K (.int k (subI k a b))
  | .mul => K (.int k (mulI k a b))
  | .quo => need (notB (eqI b 0)) (K (.int k (quoI k a b)))
  | .rem => need (notB (eqI b 0)) (K (.int k (a.tmod b)))
  | .and => K (.int k (andI k a b))
  | .or => K (.int k (orI k a b))
  | .xor => K (.int k (xorI k a b))
  | .eql => K (.bool (eqI a b))
  | .neq => K (.bool (notB (eqI a b)))
  | .lss => K (.bool (ltI a b))
  | .leq => K (.bool (leI a b))
  | .gtr => K (.bool (ltI b a))
  | .geq => K (.bool (leI b a))
  | _ => False
theorem vcInt_run {op : BinOp} {k : IntKind} {a b : Int} {K : V → Prop} (h : vcInt op k a b K) : ∃ v, intBin op k a b = some v ∧ K v := by
  cases op <;> simp only [vcInt] at h <;> first
    | exact ⟨_, rfl, h⟩
    | (obtain ⟨h1, h2⟩ := need_iff.1 h
       have h1 : ¬ b = 0 := by simpa [notB, eqI] using h1
       exact ⟨_, by simp [intBin, h1, quoI], h2⟩)
    | cases h
noncomputable def vcBin (op : BinOp) (t : TypeId) (a b : V) (K : V → Prop) : Prop :=
  match a, b with
  | .int k x, .int k' y =>
    match op with
    | .shl => need (leI 0 y) (K (.int k (shlI k x y)))
    | .shr => need (leI 0 y) (K (.int k (shrI k x y)))
    | _ => bif decide (k = k') then vcInt op k x y K else False
  | .str x, .str y =>
    match op with
    | .add => need (catOk x y) (K (.str (catS x y)))
    | .eql => K (.bool (eqS x y))
    | .neq => K (.bool (notB (eqS x y)))
    | .lss => K (.bool (ltS x y))
    | .leq => K (.bool (orB (ltS x y) (eqS x y)))
    | .gtr => K (.bool (notB (orB (ltS x y) (eqS x y))))
    | .geq => K (.bool (notB (ltS x y)))
    | _ => False
  | .bool x, .bool y =>
    match P.underlying t with
    | some .bool => match op with
      | .eql => K (.bool (eqB x y))
      | .neq => K (.bool (notB (eqB x y)))
      | _ => False
    | _ => False
  | .lst xs, .nils =>
    match P.underlying t, op with
    | some (.slice _), .eql => need (isCons xs) (K (.bool false))
    | some (.slice _), .neq => need (isCons xs) (K (.bool true))
    | _, _ => False
  | a, b => match binV P op t a b with
    | some v => K v
    | none => False
theorem vcBin_run {op : BinOp} {t : TypeId} {a b : V} {K : V → Prop} (h : vcBin P op t a b K) : ∃ v, binV P op t a b = some v ∧ K v := by
  unfold vcBin at h
  split at h
  · rename_i k x k' y
    split at h
    · obtain ⟨h1, h2⟩ := need_iff.1 h
      have h1 : 0 ≤ y := by simpa [leI] using h1
      exact ⟨_, by simp [binV, h1, shlI], h2⟩
    · obtain ⟨h1, h2⟩ := need_iff.1 h
      have h1 : 0 ≤ y := by simpa [leI] using h1
      exact ⟨_, by simp [binV, h1, shrI], h2⟩
    · rename_i n1 n2
      simp only [Bool.cond_eq_ite, decide_eq_true_eq] at h
      split at h
      · rename_i hk
        obtain ⟨v, h1, h2⟩ := vcInt_run h
        refine ⟨v, ?_, h2⟩
        cases op <;> first | (simpa [binV, hk] using h1) | exact absurd rfl n1 | exact absurd rfl n2
      · cases h
  · rename_i x y
    cases op <;> simp only [] at h <;> first
      | exact ⟨_, rfl, h⟩
      | exact h.elim
      | (obtain ⟨h1, h2⟩ := need_iff.1 h
         refine ⟨_, ?_, h2⟩
         rw [catOk_t] at h1
         simp only [binV, strBin, catS]
         rw [decide_eq_true (by omega)]
         rfl)
  · rename_i x y
    split at h
    · rename_i hu
      cases op <;> simp only [] at h <;> first
        | exact ⟨_, by simp only [binV, hu, boolBin, eqB, notB], h⟩
        | exact h.elim
    · exact h.elim
  · rename_i xs
    have hx : isCons xs = true → nilQ (.lst xs) = some false := fun e => by cases xs <;> first | rfl | cases e
    split at h
    · rename_i hu
      obtain ⟨h1, h2⟩ := need_iff.1 h
      exact ⟨_, by simp [binV, hu, hx h1], h2⟩
    · rename_i hu
      obtain ⟨h1, h2⟩ := need_iff.1 h
      exact ⟨_, by simp [binV, hu, hx h1], h2⟩
    · exact h.elim
  · split at h
    · exact ⟨_, ‹_›, h⟩
    · cases h
end
end Go.Proofs.YthhpdnlfhofanaaGreatDoor
namespace Go.Proofs.YthhpdnlfhofanaaGreatDoor
open Go.RowKit
set_option linter.unusedVariables false
/-- What is known of calls and of loops. -/
abbrev Ct := FuncId → Option (List V → List Bk → (V → List Bk → Prop) → Prop)
/-- A loop: what its head's state is made of, and what holds there. -/
structure LoopS where
  C : Type
  X : Type
  st : C → X → St
  un : St → Option (C × X)
  ok : ∀ s c x, un s = some (c, x) → st c x = s
  inv : C → X → X → Nat → Prop
  /-- Not 0: the loop is gone through so many times, instead. -/
  unr : Nat := 0
abbrev Lp := Nat → Option LoopS
/-- How a round may end: with the loop, or at the head again, with less to do. -/
def roundL (norm : St → Option St) (L : LoopS) (c : L.C) (x0 : L.X) (m : Nat) (K : Ex → St → Prop) : Ex → St → Prop
  | .normal, st => match norm st with
    | some st => match L.un st with
      | some (c', x') => c' = c ∧ ∃ m', m' < m ∧ L.inv c x0 x' m'
      | none => False
    | none => False
  | ex, st => K ex st
/-- A loop that is gone through. -/
def vcUnr (body : St → (Ex → St → Prop) → Prop) (norm : St → Option St) : Nat → St → (Ex → St → Prop) → Prop
  | 0, _, _ => False
  | n + 1, st, K => match norm st with
    | some st => body st fun ex st => match ex with
      | .normal => vcUnr body norm n st K
      | ex => K ex st
    | none => False
def okRow (xs : List (List V)) (j z : Nat) : Bool := match xs[j]? with
  | some c => Nat.beq c.length z
  | none => false
def partAt (xs : List (List V)) (j o n : Nat) : Option (List V) := (xs[j]?).bind fun c => sub c o n
def putAt (xs : List (List V)) (j o : Nat) (ys : List V) : Option (List (List V)) := (xs[j]?).bind fun c => (put c o ys).map fun c => xs.set j c
def headOkP (z : Nat) (xs : List (List V)) : Bool := headOk z xs
def okBytes (es : List (List V)) : Bool := (bytesV es).isSome
def bytesOf (es : List (List V)) : List UInt8 := (bytesV es).getD []
section
variable (P : Program) (cfg : Cfg)
def vcLoad (t : TypeId) (p : V) (h : Heap) (K : V → List Nat → Prop) : Prop :=
  match szT P t, zeroT P t with
  | some n, some z =>
    match p with
    | .ptr s i o =>
      match hget h s with
      | some b => bif b.live then
          bif b.box then match b.elems[i]? with
            | some c => match (sub c o n).bind (mkT P t) with
              | some v => K v [s]
              | none => False
            | none => False
          else withZ z.cells fun c => partAt b.elems i o n = some c ∧ match mkT P t c with
            | some v => K v [s]
            | none => False
        else False
      | none => False
    | .rptr cs o => withZ z.cells fun c => sub cs o n = some c ∧ match mkT P t c with
      | some v => K v []
      | none => False
    | _ => False
  | _, _ => False
def vcStore (t : TypeId) (p x : V) (h : Heap) (K : KK) : Prop :=
  match p with
  | .ptr s i o =>
    match hget h s with
    | some b => bif b.live && b.box then match storeV P t p x h with
        | some ((v, u), r) => K v u r
        | none => False
      else match szT P t, (do let (ys, ids) ← treeLs x.cells; let u ← freeze ids; M.guard (!has ids s); pure (ys, u) : M (List V × Upd)) h with
        | some n, some ((ys, u), r) => bif b.live && b.wr && Nat.beq x.cells.length n && x.cells.all V.leaf then
            ∃ xs, putAt b.elems i o ys = some xs ∧ K (.tup []) ((s, { b with elems := xs }) :: u) ([s] ++ r ++ [s])
          else False
        | _, _ => False
    | none => False
  | _ => False
/-- An index by cases. -/
def vcEnum (i : Int) (K : Nat → Prop) : Nat → Nat → Prop
  | 0, _ => False
  | m + 1, k => br (eqI i (Int.ofNat k)) (K k) (vcEnum i K m (k + 1))
def vcIndexAddr (rw' : Option Nat) (t : TypeId) (x i : V) (h : Heap) (K : V → List Nat → Prop) : Prop :=
  match P.underlying t, x, i with
  | some (.slice e), .ref s off len _, .int _ i =>
    match hget h s, szT P e with
    | some b, some z => bif b.live then need (andB (leI 0 i) (ltI i (Int.ofNat len))) (need (okRow b.elems (off + i.toNat) z) (K (.ptr s (off + i.toNat) 0) [s])) else False
    | _, _ => False
  | some (.slice e), .lst xs, .int _ i =>
    match szT P e with
    | some z => need (andB (leI 0 i) (ltI i (lenL xs))) (need (okRow xs i.toNat z) (K (.rptr (rowAt xs i) 0) []))
    | none => False
  | some (.array n e), .ptr s j o, .int _ i =>
    match szT P e with
    | some z => need (andB (leI 0 i) (ltI i (Int.ofNat n))) (match rw' with
      | none => match hget h s with
        | some b => bif b.box && Nat.ble n 8 then vcEnum i (fun k => K (.ptr s j (o + k * z)) []) n 0 else K (.ptr s j (o + i.toNat * z)) []
        | none => K (.ptr s j (o + i.toNat * z)) []
      | some _ => match hget h s with
        | some b => bif b.live then bif b.box then K (.ptr s j (o + i.toNat * z)) [s] else bif Nat.beq o 0 then need (okRow b.elems (j + i.toNat) z) (K (.ptr s (j + i.toNat) 0) [s]) else False else False
        | none => False)
    | none => False
  | some (.array n e), .rptr c o, .int _ i =>
    match szT P e with
    | some z => need (andB (leI 0 i) (ltI i (Int.ofNat n))) (K (.rptr c (o + i.toNat * z)) [])
    | none => False
  | _, _, _ => False
/-- The bounds of a slice without a third one. -/
def vcBounds (len cap : Int) (lo hi : Option V) (K : Int → Int → Prop) : Prop :=
  match lo, hi with
  | none, none => K 0 len
  | some (.int _ l), none => need (andB (leI 0 l) (leI l len)) (K l len)
  | none, some (.int _ h) => need (andB (leI 0 h) (leI h cap)) (K 0 h)
  | some (.int _ l), some (.int _ h) => need (andB (leI 0 h) (leI h cap)) (need (andB (leI 0 l) (leI l h)) (K l h))
  | _, _ => False
/-- The bounds of a slice with a third one. -/
def vcBounds3 (cap m : Int) (lo hi : Option V) (K : Int → Int → Prop) : Prop :=
  match lo, hi with
  | none, some (.int _ h) => need (andB (leI 0 m) (leI m cap)) (need (andB (leI 0 h) (leI h m)) (K 0 h))
  | some (.int _ l), some (.int _ h) => need (andB (leI 0 m) (leI m cap)) (need (andB (leI 0 h) (leI h m)) (need (andB (leI 0 l) (leI l h)) (K l h)))
  | _, _ => False
def vcSlice (isStr : Bool) (x : V) (lo hi mx : Option V) (K : V → Prop) : Prop :=
  match mx with
  | some y => match isStr, x, y with
    | false, .ref a off len cm, .int _ m => vcBounds3 (Int.ofNat cm) m lo hi fun l h => br (eqI m l) (K .emp) (K (.ref a (off + l.toNat) (h.toNat - l.toNat) (m.toNat - l.toNat)))
    | false, .lst xs, .int _ m => vcBounds3 (lenL xs) m lo hi fun l h => br (eqI m l) (K .emp) (K (.lst (cutL xs l h)))
    | _, _, _ => match sliceV isStr x lo hi mx with
      | some v => K v
      | none => False
  | none => match isStr, x with
    | true, .str s => vcBounds (lenS s) (lenS s) lo hi fun l h => K (.str (cutS s l h))
    | false, .ref a off len cm => vcBounds (Int.ofNat len) (Int.ofNat cm) lo hi fun l h => K (.ref a (off + l.toNat) (h.toNat - l.toNat) (cm - l.toNat))
    | false, .lst xs => vcBounds (lenL xs) (lenL xs) lo hi fun l h => K (.lst (cutL xs l h))
    | false, .nils => vcBounds 0 0 lo hi fun _ _ => K .nils
    | false, .emp => vcBounds 0 0 lo hi fun _ _ => K .emp
    | _, _ => False
def vcAppend (ty site bytes z : Nat) (s x : V) (h : Heap) (K : KK) : Prop :=
  match elemsOf x h with
  | some (news, r1) =>
    need (headOkP z news) (match s with
    | .nils => need (leN (news.length * bytes) bytes47) (match newB site ⟨true, false, true, news, ty⟩ h with
      | some (u, r) => K (.ref site 0 news.length news.length) u (r1 ++ r)
      | none => False)
    | .emp => need (leN (news.length * bytes) bytes47) (match newB site ⟨true, false, true, news, 0⟩ h with
      | some (u, r) => K (.ref site 0 news.length news.length) u (r1 ++ r)
      | none => False)
    | .ref a off len cm => match hget h a with
      | some b => bif b.live && (b.wr && !b.box) then need (headOkP z b.elems)
          (br (leN (len + news.length) cm)
            (K (.ref a off (len + news.length) cm) [(a, { b with elems := b.elems.take (off + len) ++ news ++ b.elems.drop (off + len + news.length) })] (r1 ++ [a]))
            (need (eqN (off + len) b.elems.length) (need (leN ((len + news.length) * bytes) bytes47) (match newB site ⟨true, false, true, b.elems.drop off ++ news, keepTy b.ty ty off⟩ h with
              | some (u, r) => K (.ref site 0 (len + news.length) (len + news.length)) (u ++ [(a, { b with live := false })]) (r1 ++ [a] ++ r)
              | none => False)))) else False
      | none => False
    | _ => False)
  | none => False
def vcDflt (call : CallF) (site : Nat) (ts : Tmps) (o : Oper) (h : Heap) (K : KK) : Prop :=
  match evOp P cfg call site ts o h with
  | some ((v, u), r) => K v u r
  | none => False
def vcPrim (g : List V → Option (Bool × V)) (vs : List V) (h : Heap) (K : KK) : Prop :=
  match treeAs vs h with
  | some ((vs, ids), r1) => match g vs with
    | some (c, res) => need c (bif treeTB res then (bif res.scalar then K res [] r1 else match freeze ids h with
      | some (z, r2) => K res z (r1 ++ r2)
      | none => False) else False)
    | none => False
  | none => False
def isStrV : V → Bool
  | .str _ => true
  | _ => false
def vcClone (site : Nat) (f : FuncId) (vs : List V) (h : Heap) (K : KK) : Prop :=
  match vs, (P.funcs[f]?).bind fun fn => fn.params.toList.head? with
  | [x], some t =>
    match P.underlying t with
    | some (.slice e) => bif isStrV x then False else match bytesT P e, szT P e, elemsOf x h with
      | some n, some z, some (es, r1) => bif Nat.ble 1 z then need (headOkP z es) (need (leN (es.length * n) bytes47) (match newB site ⟨true, false, true, es, 0⟩ h with
        | some (u, r2) => K (.ref site 0 es.length es.length) u (r1 ++ r2)
        | none => False)) else False
      | _, _, _ => False
    | _ => False
  | _, _ => False
/-- slices.Insert of an own row. -/
def vcIns (site : Nat) (f : FuncId) (vs : List V) (h : Heap) (K : KK) : Prop :=
  match insA vs, elT P f with
  | some g, some e => match bytesT P e, szT P e, elemsOf (.ref g.a2 g.off2 g.len2 g.cm2) h, rdl g.a2 h, rdl g.a h with
    | some n, some z, some (news, r1), some (b2, r2), some (b, r3) =>
      bif Nat.ble 1 z && Nat.ble 1 news.length && b2.wr && b.wr && !b.box && !Nat.beq g.a g.a2 then
        need (headOkP z news) (need (headOkP z b.elems) (need (andB (leI 0 g.i) (leI g.i (Int.ofNat g.len))) (need (leN ((g.len + news.length) * n) bytes47) (
          br (leN (g.len + news.length) g.cm)
            (K (.ref g.a g.off (g.len + news.length) g.cm) [(g.a, { b with elems := b.elems.take (g.off + g.i.toNat) ++ (news ++ ((b.elems.drop g.off).take g.len).drop g.i.toNat) ++ b.elems.drop (g.off + g.len + news.length) })] (r1 ++ (r2 ++ r3)))
            (need (eqN (g.off + g.len) b.elems.length) (match newB site ⟨true, false, true, ((b.elems.drop g.off).take g.len).take g.i.toNat ++ (news ++ ((b.elems.drop g.off).take g.len).drop g.i.toNat), 0⟩ h with
              | some (u, r4) => K (.ref site 0 (g.len + news.length) (g.len + news.length)) (u ++ [(g.a, { b with live := false })]) (r1 ++ (r2 ++ (r3 ++ r4)))
              | none => False))))))
      else False
    | _, _, _, _, _ => False
  | _, _ => False
def vcOwn (site : Nat) (f : FuncId) (vs : List V) (h : Heap) (K : KK) : Prop := bif Nat.beq (((P.funcs[f]?).map fun fn => fn.params.size).getD 0) 3 then vcIns P site f vs h K else vcClone P site f vs h K
/-- What is found among a map's entries: numbers. -/
def findOk (kt : TypeId) (kk : IntKind) (k : V) (es : List (List V)) : Bool := match findM P kt k es 0 with
  | some none => true
  | some (some (_, .int k2 _)) => decide (k2 = kk)
  | _ => false
def findI (kt : TypeId) (k : V) (es : List (List V)) : Int := match findM P kt k es 0 with
  | some (some (_, .int _ n)) => n
  | _ => 0
def findB (kt : TypeId) (k : V) (es : List (List V)) : Bool := match findM P kt k es 0 with
  | some (some _) => true
  | _ => false
def findNo (kt : TypeId) (k : V) (es : List (List V)) : Bool := match findM P kt k es 0 with
  | some none => true
  | _ => false
def keyIs (es : List (List V)) (i : Int) (k : V) : Prop := keyAt es i.toNat = some k
def setAt (es : List (List V)) (i : Int) (c : List V) : List (List V) := es.set i.toNat c
def vcLookup (t : TypeId) (x k : V) (ok : Bool) (h : Heap) (K : KK) : Prop :=
  match P.underlying t, x with
  | some (.map kt et), .map s => match hget h s, zeroT P et with
    | some b, some (.int kk z) => bif b.live && keyV P 100 kt k && decide (z = 0) then need (findOk P kt kk k b.elems)
        (bif ok then K (.tup [.int kk (findI P kt k b.elems), .bool (findB P kt k b.elems)]) [] [s] else K (.int kk (findI P kt k b.elems)) [] [s]) else False
    | _, _ => False
  | _, _ => False
def vcEntry (t : TypeId) (x k : V) (h : Heap) (K : KK) : Prop :=
  match P.underlying t, x with
  | some (.map kt et), .map s => match hget h s, zeroT P et with
    | some b, some z => bif b.live && (b.wr && keyV P 100 kt k && k.treeA) && z.treeA then need (findNo P kt k b.elems)
        (K (.tup [z, .int .i64 (lenL b.elems)]) [(s, { b with elems := b.elems ++ [[k, z]] })] [s]) else False
    | _, _ => False
  | _, _ => False
def vcUpdate (t : TypeId) (x k v : V) (h : Heap) (K : KK) : Prop :=
  match P.underlying t, x with
  | some (.map kt _), .map s => match hget h s with
    | some b => bif b.live && (b.wr && keyV P 100 kt k && k.treeA && v.treeA) then need (findNo P kt k b.elems)
        (K (.tup []) [(s, { b with elems := b.elems ++ [[k, v]] })] [s]) else False
    | none => False
  | _, _ => False
def vcEntryStore (x i v : V) (h : Heap) (K : KK) : Prop :=
  match x, i with
  | .map s, .int _ i => match hget h s with
    | some b => bif b.live && (b.wr && v.treeA) then need (leI 0 i) (∃ k, keyIs b.elems i k ∧ K (.tup []) [(s, { b with elems := setAt b.elems i [k, v] })] [s]) else False
    | _ => False
  | _, _ => False
def vcBstr (bld : Nat) (vs : List V) (h : Heap) (K : KK) : Prop :=
  match vs with
  | [.ptr s 0 0] => match hget h s with
    | some b => bif b.live && (b.box && Nat.beq b.ty bld && Nat.ble 1000000 bld) then match b.elems with
      | [[.slf _, x]] => match x with
        | .nils => K (.str []) [] [s]
        | .ref a 0 len _ => match hget h a with
          | some c => bif c.live && (c.wr && !c.box && Nat.beq c.ty (bld % 1000000)) then need (okBytes (c.elems.take len)) (need (exactB (c.elems.take len)) (need (leN len bytes47) (K (.str (bytesOf (c.elems.take len))) [(a, { c with wr := false })] [s, a]))) else False
          | none => False
        | _ => False
      | _ => False
      else False
    | none => False
  | _ => False
def vcSelf (bld : Nat) (vs : List V) (h : Heap) (K : KK) : Prop :=
  match selfV bld vs h with
  | some ((v, u), r) => K v u r
  | none => False
def vcCopy (z : Nat) (dst src : V) (h : Heap) (K : KK) : Prop :=
  match elemsOf src h with
  | some (e, r1) => need (headOkP z e) (match dst with
    | .ref a off len _ => match hget h a with
      | some b => bif b.live && (b.wr && !b.box) then need (headOkP z b.elems) (K (.int .i64 (Int.ofNat (minN e.length len))) [(a, { b with elems := b.elems.take off ++ e.take (minN e.length len) ++ b.elems.drop (off + minN e.length len) })] (r1 ++ [a])) else False
      | none => False
    | .nils => K (.int .i64 0) [] r1
    | .emp => K (.int .i64 0) [] r1
    | _ => False)
  | none => False
def minFromI (k : IntKind) (a : Int) : List V → Option V
  | [] => some (.int k a)
  | .int _ b :: t => minFromI k (minI a b) t
  | _ => none
def maxFromI (k : IntKind) (a : Int) : List V → Option V
  | [] => some (.int k a)
  | .int _ b :: t => maxFromI k (maxI a b) t
  | _ => none
def minVI : List V → Option V
  | .int k a :: t => minFromI k a t
  | _ => none
def maxVI : List V → Option V
  | .int k a :: t => maxFromI k a t
  | _ => none
def vcPart (e : TypeId) (cs : List V) (z : Nat) (i : Int) (K : V → Prop) : Nat → Nat → Prop
  | 0, _ => False
  | n + 1, k => br (eqI i (Int.ofNat k)) (match partT P e cs (k * z) with
    | some v => K v
    | none => False) (vcPart e cs z i K n (k + 1))
def vcCall0 (ct : Ct) (site : Nat) (f : FuncId) (vs : List V) (h : Heap) (K : KK) : Prop :=
  match ct f with
  | none => match callV P cfg (fun _ _ _ => none) site f vs h with
    | some ((v, u), r) => K v u r
    | none => False
  | some g =>
    bif (cfg.prim f).isSome || cfg.self f || cfg.clone f || cfg.bstr f then False else
    bif cfg.ref f then
      match (do let ids ← reach reachFuel (vs.flatMap idsA) []; let bs ← rdAll ids; M.guard (bs.all Bk.live); pure (ids, bs) : M (List Nat × List Bk)) h with
      | some ((ids, bs), r) => match renAs (renOf ids) vs, renBs (renOf ids) bs with
        | some vs, some bs => g vs bs fun res out => match bring site ids res out h with
          | some ((v, u), r') => K v u (r ++ r')
          | none => False
        | _, _ => False
      | none => False
    else match treeAs vs h with
      | some ((vs, ids), r) => g vs [] fun res out =>
          bif res.scalar then (bif out.isEmpty then K res [] r else False)
          else match (do let z ← freeze ids; let (r, u) ← bring site [] res out; pure (r, u ++ z) : M (V × Upd)) h with
            | some ((v, u), r') => K v u (r ++ r')
            | none => False
      | none => False
def vcCall (ct : Ct) (site : Nat) (f : FuncId) (vs : List V) (h : Heap) (K : KK) : Prop :=
  match cfg.prim f with
  | some g => vcPrim g vs h K
  | none => bif cfg.self f then vcSelf cfg.bld vs h K
    else bif cfg.clone f then vcOwn P site f vs h K
    else bif cfg.bstr f then vcBstr cfg.bld vs h K
    else vcCall0 P cfg ct site f vs h K
noncomputable def vcOp (ct : Ct) (site : Nat) (ts : Tmps) (o : Oper) (h : Heap) (K : KK) : Prop :=
  match o.op with
  | .binOp op t x y _ => match evalO cfg.glob ts x, evalO cfg.glob ts y with
    | some a, some b => vcBin P op t a b fun v => K v [] []
    | _, _ => False
  | .unOp op _ x => match op, evalO cfg.glob ts x with
    | .neg, some (.int k a) => K (.int k (negI k a)) [] []
    | .not, some (.bool b) => K (.bool (notB b)) [] []
    | _, _ => False
  | .convert src dst x => match P.underlying src, P.underlying dst, evalO cfg.glob ts x with
    | some _, some (.int k), some (.int _ n) => K (.int k (wrapI k n)) [] []
    | some .string, some .string, some (.str s) => K (.str s) [] []
    | some (.slice e), some .string, some x => match P.underlying e with
      | some (.int .u8) => match x with
        | .str _ => False
        | x => match elemsOf x h with
          | some (es, r) => need (okBytes es) (K (.str (bytesOf es)) [] r)
          | none => False
      | _ => False
    | _, _, _ => False
  | .load t p => match evalO cfg.glob ts p with
    | some p => vcLoad P t p h fun v r => K v [] r
    | none => False
  | .store t p x => match evalO cfg.glob ts p, evalO cfg.glob ts x with
    | some p, some x => vcStore P t p x h K
    | _, _ => False
  | .indexAddr t x i => match evalO cfg.glob ts x, evalO cfg.glob ts i with
    | some x, some i => vcIndexAddr P (cfg.rows t) t x i h fun v r => K v [] r
    | _, _ => False
  | .index t x i => match P.underlying t, evalO cfg.glob ts x, evalO cfg.glob ts i with
    | some .string, some (.str s), some (.int _ i) => need (andB (leI 0 i) (ltI i (lenS s))) (K (.int .u8 (atS s i)) [] [])
    | some (.array n e), some (.agg cs), some (.int _ i) => match szT P e with
      | some z => need (andB (leI 0 i) (ltI i (Int.ofNat n))) (vcPart P e cs z i (fun v => K v [] []) n 0)
      | none => False
    | _, _, _ => vcDflt P cfg (fun _ _ _ => none) site ts o h K
  | .slice t x lo hi mx => match P.underlying t, evalO cfg.glob ts x, evOpt cfg.glob ts lo, evOpt cfg.glob ts hi, evOpt cfg.glob ts mx with
    | some .string, some x, some lo, some hi, some mx => vcSlice true x lo hi mx fun v => K v [] []
    | some (.slice e), some x, some lo, some hi, some mx => match szT P e with
      | some z => match x with
        | .ref s _ _ _ => match hget h s with
          | some b => bif b.live then need (headOkP z b.elems) (vcSlice false x lo hi mx fun v => K v [] [s]) else False
          | none => False
        | .lst xs => need (headOkP z xs) (vcSlice false x lo hi mx fun v => K v [] [])
        | x => vcSlice false x lo hi mx fun v => K v [] []
      | none => False
    | some (.array n e), some (.ptr s 0 0), some lo, some hi, some none => match szT P e, hget h s with
      | some z, some b => bif b.live && !b.box then need (headOkP z b.elems) (need (leN n b.elems.length) (vcSlice false (.ref s 0 n n) lo hi none fun v => K v [] [s])) else False
      | _, _ => False
    | _, _, _, _, _ => False
  | .pick c a b => match evalO cfg.glob ts c, evalO cfg.glob ts a, evalO cfg.glob ts b with
    | some (.bool c), some a, some b => br c (K a [] []) (K b [] [])
    | some (.bool c), some a, none => need c (K a [] [])
    | some (.bool c), none, some b => need (notB c) (K b [] [])
    | _, _, _ => False
  | .makeSlice t l c => match P.underlying t, evalO cfg.glob ts l, evalO cfg.glob ts c with
    | some (.slice e), some (.int _ l), some (.int _ c) => match bytesT P e, szT P e, (zeroT P e).map V.cells with
      | some n, some s, some z => need (andB (leI 0 l) (leI l c)) (need (leN (c.toNat * n) bytes47) (need (leN c.toNat bytes47)
          (bif z.all V.isTree && Nat.beq z.length s && Nat.ble 1 s then match newB site ⟨true, false, true, List.replicate c.toNat z, 0⟩ h with
            | some (u, r) => K (.ref site 0 l.toNat c.toNat) u r
            | none => False
          else False)))
      | _, _, _ => False
    | _, _, _ => False
  | .lookup t x k ok => match evalO cfg.glob ts x, evalO cfg.glob ts k with
    | some x, some k => vcLookup P t x k ok h K
    | _, _ => False
  | .mapEntry t x k => match evalO cfg.glob ts x, evalO cfg.glob ts k with
    | some x, some k => vcEntry P t x k h K
    | _, _ => False
  | .mapUpdate t x k v => match evalO cfg.glob ts x, evalO cfg.glob ts k, evalO cfg.glob ts v with
    | some x, some k, some v => vcUpdate P t x k v h K
    | _, _, _ => False
  | .entryStore t x i v => match evalO cfg.glob ts x, evalO cfg.glob ts i, evalO cfg.glob ts v with
    | some x, some i, some v => vcEntryStore x i v h K
    | _, _, _ => False
  | .call { callee := .builtin b, args, argTypes } => match evArgs cfg.glob ts args.toList with
    | some vs => match b, argTypes.toList, vs with
      | .len, t :: _, [x] => match P.underlying t, x with
        | some .string, .str s => K (.int .i64 (lenS s)) [] []
        | some (.slice _), .lst xs => K (.int .i64 (lenL xs)) [] []
        | _, _ => vcDflt P cfg (fun _ _ _ => none) site ts o h K
      | .append, [t, t'], [s, x] => match P.underlying t with
        | some (.slice e) => match bytesT P e, szT P e, zeroT P e with
          | some n, some z, some zero => bif Nat.ble 1 z && Nat.ble 1 n && Nat.beq zero.cells.length z && srcOk P t' then vcAppend (tyE P e) site n z s x h K else False
          | _, _, _ => False
        | _ => False
      | .copy, [t, _], [d, x] => match P.underlying t with
        | some (.slice e) => match szT P e with
          | some z => bif Nat.ble 1 z then vcCopy z d x h K else False
          | none => False
        | _ => False
      | .clear, [t], [x] => match P.underlying t, x with
        | some (.slice e), .ref a off len _ => match hget h a, szT P e, (zeroT P e).map V.cells with
          | some b, some n, some z => bif b.live && (b.wr && !b.box) && Nat.beq z.length n && z.all V.isTree && Nat.ble 1 n then
              need (headOkP n b.elems) (K (.tup []) [(a, { b with elems := b.elems.take off ++ List.replicate len z ++ b.elems.drop (off + len) })] [a]) else False
          | _, _, _ => False
        | _, _ => vcDflt P cfg (fun _ _ _ => none) site ts o h K
      | .min, _, vs => match minVI vs with
        | some v => K v [] []
        | none => False
      | .max, _, vs => match maxVI vs with
        | some v => K v [] []
        | none => False
      | _, _, _ => vcDflt P cfg (fun _ _ _ => none) site ts o h K
    | none => False
  | .call { callee := .value f, args, .. } => match evArgs cfg.glob ts args.toList, evalO cfg.glob ts f with
    | some vs, some (.func f a c) => bif (P.funcs[f]?).any (·.body.isSome) then vcCall P cfg ct site f (a ++ vs ++ c) h K else False
    | _, _ => False
  | _ => vcDflt P cfg (fun _ _ _ => none) site ts o h K
def setT (d : Nat) (v : V) : Tmps → Tmps
  | [] => []
  | (j, x) :: t => bif Nat.beq j d then (j, v) :: t else (j, x) :: setT d v t
noncomputable def vcGo (ct : Ct) (id : Nat) (ops : List Oper) (i : Nat) (o : Oper) (h : Heap) (K : St → Foot → Prop) (want : Bool) (ts : Tmps) : Prop :=
  bif want then vcOp P cfg ct (1000 + (id * 256 + i) * 8) ts o h fun v u r => K ⟨putT o.dst v ts, u ++ h⟩ ⟨r, u.map (·.1), looks ops o, o.dst, softOf o.op⟩
  else K ⟨putT o.dst (.tup []) ts, h⟩ ⟨[], [], looks ops o, o.dst, 0⟩
noncomputable def vcIx (ct : Ct) (id : Nat) (ops : List Oper) (i : Nat) (o : Oper) (st : St) (K : St → Foot → Prop) : Prop :=
  match o.guard with
  | none => vcGo P cfg ct id ops i o st.heap K true st.tmps
  | some (j, want) =>
    match (ops[j]?).bind (·.dst) with
    | some d => match tget st.tmps d with
      | some (.bool b) => br b (vcGo P cfg ct id ops i o st.heap K (true == want) (setT d (.bool true) st.tmps)) (vcGo P cfg ct id ops i o st.heap K (false == want) (setT d (.bool false) st.tmps))
      | some (.tup []) => vcGo P cfg ct id ops i o st.heap K false st.tmps
      | _ => False
    | none => False
noncomputable def vcOps (ct : Ct) (id : Nat) (ops : List Oper) : Nat → List Oper → St → (St → List Foot → Prop) → Prop
  | _, [], st, K => K st []
  | i, o :: rest, st, K => vcIx P cfg ct id ops i o st fun st f => vcOps ct id ops (i + 1) rest st fun st fs => K st (f :: fs)
noncomputable def vcCode (ct : Ct) (lp : Lp) (p : Nat) (keep : Nat → Option (List Nat)) : Code → St → (Ex → St → Prop) → Prop
  | .skip, st, K => K .normal st
  | .label _, st, K => K .normal st
  | .region id ops draw, st, K => vcOps P cfg ct id ops.toList 0 ops.toList st fun st fs => bif !draw || drawOk ops.toList fs then K .normal st else False
  | .seq a b, st, K => vcCode ct lp p keep a st fun ex st => match ex with
    | .normal => vcCode ct lp p keep b st K
    | ex => K ex st
  | .cond c x y, st, K =>
    match evalO cfg.glob st.tmps c with
    | some (.bool t) => match c with
      | .tmp d => br t (vcCode ct lp p keep x ⟨setT d (.bool true) st.tmps, st.heap⟩ K) (vcCode ct lp p keep y ⟨setT d (.bool false) st.tmps, st.heap⟩ K)
      | _ => br t (vcCode ct lp p keep x st K) (vcCode ct lp p keep y st K)
    | _ => False
  | .block id b, st, K => vcCode ct lp p keep b st fun ex st => match ex with
    | .exit i => bif Nat.beq i id then K .normal st else K (.exit i) st
    | ex => K ex st
  | .loop b, st, K => match (firstR b).bind lp with
    | some L => bif Nat.ble 1 L.unr then vcUnr (vcCode ct lp p keep b) (normSt p ((firstR b).bind keep)) (bif Nat.ble L.unr 64 then L.unr else 0) st K else match normSt p ((firstR b).bind keep) st with
      | some st0 => match L.un st0 with
        | some (c, x0) => (∃ m, m < 18446744073709551616 ∧ L.inv c x0 x0 m) ∧ ∀ x m, L.inv c x0 x m → vcCode ct lp p keep b (L.st c x) (roundL (normSt p ((firstR b).bind keep)) L c x0 m K)
        | none => False
      | none => False
    | none => False
  | .exit id, st, K => K (.exit id) st
  | .ret, st, K => K .ret st
  | _, _, _ => False
noncomputable def vcF (ct : Ct) (lp : Lp) (f : FuncId) (vs : List V) (bs : List Bk) (K : V → List Bk → Prop) : Prop :=
  match P.funcs[f]? with
  | none => False
  | some fn => match fn.body with
    | none => False
    | some c => bif Nat.ble vs.length fn.ntmps then vcCode P cfg ct lp bs.length (cfg.keep f) c ⟨enumT 0 vs, enumB 0 bs⟩ fun ex st => match ex with
        | .exit _ => False
        | _ => match finish P cfg f fn bs.length st with
          | some (r, out) => K r out
          | none => False
      else False
end
end Go.Proofs.YthhpdnlfhofanaaGreatDoor
namespace Go.Proofs.YthhpdnlfhofanaaGreatDoor
open Go.RowKit
set_option linter.unusedVariables false
set_option linter.unusedSimpArgs false
section
variable {α β : Type} {h : Heap}
theorem M.of_bind {x : M α} {f : α → M β} {a : α} {b : β} {r1 r2 : List Nat} (h1 : x h = some (a, r1)) (h2 : f a h = some (b, r2)) : (x >>= f) h = some (b, r1 ++ r2) := by
  show M.bind x f h = _
  unfold M.bind
  rw [h1]
  simp only
  rw [h2]
theorem M.of_lift {o : Option α} {a : α} (e : o = some a) : M.lift o h = some (a, []) := by subst e; rfl
theorem M.of_guard {b : Bool} (e : b = true) : M.guard b h = some ((), []) := by subst e; rfl
theorem M.of_pure (a : α) : (Pure.pure a : M α) h = some (a, []) := rfl
theorem rdl_of {s : Nat} {b : Bk} (e : hget h s = some b) (hl : b.live = true) : rdl s h = some (b, [s]) := by
  unfold rdl
  refine M.of_bind (a := some b) (r1 := [s]) (r2 := []) ?_ ?_
  · show some (hget h s, [s]) = _
    rw [e]
  · simp only [hl, cond_true]; rfl
end
variable {P : Program} {cfg : Cfg} {h : Heap}
theorem vcLoad_run {t : TypeId} {p : V} {K : V → List Nat → Prop} (e : vcLoad P t p h K) : ∃ v r, loadV P t p h = some (v, r) ∧ K v r := by
  unfold vcLoad at e
  split at e
  · rename_i n z hn hz
    split at e
    · rename_i s i o
      split at e
      · rename_i b hb
        simp only [Bool.cond_eq_ite] at e
        split at e
        · rename_i hl
          split at e
          · split at e
            · rename_i c hc
              split at e
              · rename_i v hv
                refine ⟨v, [s], ?_, e⟩
                unfold loadV
                refine M.of_bind (r2 := [s]) (M.of_lift hn) ?_
                refine M.of_bind (r2 := []) (rdl_of hb hl) ?_
                simp only [hc]
                exact M.of_lift hv
              · exact e.elim
            · exact e.elim
          · obtain ⟨c, hc, e⟩ := withZ_run e
            split at e
            · rename_i v hv
              refine ⟨v, [s], ?_, e⟩
              unfold partAt at hc
              obtain ⟨c', hc1, hc2⟩ := Option.bind_eq_some_iff.1 hc
              unfold loadV
              refine M.of_bind (r2 := [s]) (M.of_lift hn) ?_
              refine M.of_bind (r2 := []) (rdl_of hb hl) ?_
              simp only [hc1]
              exact M.of_lift (by rw [hc2]; exact hv)
            · exact e.elim
        · exact e.elim
      · exact e.elim
    · rename_i cs o
      obtain ⟨c, hc, e⟩ := withZ_run e
      split at e
      · rename_i v hv
        refine ⟨v, [], ?_, e⟩
        unfold loadV
        refine M.of_bind (r2 := []) (M.of_lift hn) ?_
        exact M.of_lift (by rw [hc]; exact hv)
      · exact e.elim
    · exact e.elim
  · exact e.elim
theorem vcStore_run {t : TypeId} {p x : V} {K : KK} (e : vcStore P t p x h K) : ∃ v u r, storeV P t p x h = some ((v, u), r) ∧ K v u r := by
  unfold vcStore at e
  split at e
  · rename_i s i o
    split at e
    · rename_i b hb
      simp only [Bool.cond_eq_ite] at e
      split at e
      · split at e
        · exact ⟨_, _, _, ‹_›, e⟩
        · exact e.elim
      · rename_i hnb
        split at e
        · rename_i n ys u r hn hm
          split at e
          · rename_i hg
            simp only [Bool.and_eq_true] at hg
            obtain ⟨⟨⟨hl, hw⟩, hlen⟩, hleaf⟩ := hg
            obtain ⟨xs, hx, e⟩ := e
            have hbox : b.box = false := by
              cases hbb : b.box with
              | false => rfl
              | true => simp [hl, hbb] at hnb
            unfold putAt at hx
            obtain ⟨c, hc1, hc2⟩ := Option.bind_eq_some_iff.1 hx
            obtain ⟨c', hc3, rfl⟩ := Option.map_eq_some_iff.1 hc2
            obtain ⟨⟨ys', ids⟩, r1, r2, e1, e2, rfl⟩ := M.inv_bind hm
            obtain ⟨u', r3, r4, e3, e4, rfl⟩ := M.inv_bind e2
            obtain ⟨_, r5, r6, e5, e6, rfl⟩ := M.inv_bind e4
            obtain ⟨hq, rfl⟩ := M.inv_pure e6
            injection hq with q1 q2
            subst q1 q2
            obtain ⟨hg2, rfl⟩ := M.inv_guard e5
            refine ⟨_, _, _, ?_, e⟩
            unfold storeV
            have : ([s] ++ (r1 ++ (r3 ++ ([] ++ []))) ++ [s]) = [] ++ ([s] ++ ([] ++ (r1 ++ (r3 ++ ([s] ++ ([] ++ [])))))) := by simp
            rw [this]
            refine M.of_bind (M.of_lift hn) ?_
            refine M.of_bind (rdl_of hb hl) ?_
            refine M.of_bind (M.of_guard (by rw [hw, hlen, hleaf]; rfl)) ?_
            simp only [hc1, hbox, cond_false]
            refine M.of_bind e1 ?_
            refine M.of_bind e3 ?_
            refine M.of_bind (rdl_of hb hl) ?_
            refine M.of_bind (M.of_guard hg2) ?_
            simp only [hc3, hbox]
            rfl
          · exact e.elim
        · exact e.elim
    · exact e.elim
  · exact e.elim
theorem okRow_spec {xs : List (List V)} {j z : Nat} (e : okRow xs j z = true) : ∃ c, xs[j]? = some c ∧ Nat.beq c.length z = true := by
  unfold okRow at e
  split at e
  · exact ⟨_, ‹_›, e⟩
  · cases e
theorem vcEnum_run {i : Int} {K : Nat → Prop} : ∀ {m k : Nat}, vcEnum i K m k → K i.toNat
  | 0, k, h => h.elim
  | m + 1, k, h => by
    simp only [vcEnum] at h
    obtain ⟨h1, h2⟩ := br_iff.1 h
    cases hi : eqI i (Int.ofNat k) with
    | true =>
      have hik : i = Int.ofNat k := by simpa [eqI] using hi
      have := h1 hi
      rw [hik]; exact this
    | false => exact vcEnum_run (h2 hi)
theorem vcIndexAddr_run {rw' : Option Nat} {t : TypeId} {x i : V} {K : V → List Nat → Prop} (e : vcIndexAddr P rw' t x i h K) : ∃ v r, indexAddrV P rw' t x i h = some (v, r) ∧ K v r := by
  unfold vcIndexAddr at e
  split at e
  · rename_i el s off len cm k i hu
    split at e
    · rename_i b z hb hz
      simp only [Bool.cond_eq_ite] at e
      split at e
      · rename_i hl
        obtain ⟨h1, e⟩ := need_iff.1 e
        obtain ⟨h2, e⟩ := need_iff.1 e
        obtain ⟨c, hc1, hc2⟩ := okRow_spec h2
        refine ⟨_, _, ?_, e⟩
        unfold indexAddrV
        simp only [hu]
        refine M.of_bind (r2 := []) (rdl_of hb hl) ?_
        refine M.of_bind (r1 := []) (r2 := []) (M.of_lift hz) ?_
        refine M.of_bind (r1 := []) (r2 := []) (M.of_guard (by simpa [andB, leI, ltI] using h1)) ?_
        simp only [hc1]
        exact M.of_bind (r1 := []) (r2 := []) (M.of_guard hc2) rfl
      · exact e.elim
    · exact e.elim
  · rename_i el xs k i hu
    split at e
    · rename_i z hz
      obtain ⟨h1, e⟩ := need_iff.1 e
      obtain ⟨h2, e⟩ := need_iff.1 e
      obtain ⟨c, hc1, hc2⟩ := okRow_spec h2
      refine ⟨_, _, ?_, e⟩
      unfold indexAddrV
      simp only [hu]
      refine M.of_bind (r1 := []) (r2 := []) (M.of_lift hz) ?_
      refine M.of_bind (r1 := []) (r2 := []) (M.of_guard (by have : leI 0 i = true := by (simp [andB] at h1; exact h1.1)
                                                             exact this)) ?_
      simp only [hc1]
      refine M.of_bind (r1 := []) (r2 := []) (M.of_guard hc2) ?_
      simp [rowAt, List.getD, hc1]
      rfl
    · exact e.elim
  · rename_i n el s j o k i hu
    split at e
    · rename_i z hz
      obtain ⟨h1, e⟩ := need_iff.1 e
      cases rw' with
      | none =>
        have e : K (.ptr s j (o + i.toNat * z)) [] := by
          simp only at e
          split at e
          · simp only [Bool.cond_eq_ite] at e
            split at e
            · exact vcEnum_run e
            · exact e
          · exact e
        refine ⟨_, _, ?_, e⟩
        unfold indexAddrV
        simp only [hu]
        refine M.of_bind (r1 := []) (r2 := []) (M.of_guard (by simpa [andB, leI, ltI] using h1)) ?_
        exact M.of_bind (r1 := []) (r2 := []) (M.of_lift hz) rfl
      | some q =>
        simp only at e
        split at e
        · rename_i b hb
          simp only [Bool.cond_eq_ite] at e
          split at e
          · rename_i hl
            split at e
            · rename_i hbx
              refine ⟨_, _, ?_, e⟩
              unfold indexAddrV
              simp only [hu]
              refine M.of_bind (r1 := []) (r2 := [s]) (M.of_guard (by simpa [andB, leI, ltI] using h1)) ?_
              refine M.of_bind (r1 := []) (r2 := [s]) (M.of_lift hz) ?_
              refine M.of_bind (r2 := []) (rdl_of hb hl) ?_
              simp only [hbx, cond_true]
              rfl
            · rename_i hbx
              split at e
              · rename_i ho
                obtain ⟨h2, e⟩ := need_iff.1 e
                obtain ⟨c, hc1, hc2⟩ := okRow_spec h2
                refine ⟨_, _, ?_, e⟩
                unfold indexAddrV
                simp only [hu]
                refine M.of_bind (r1 := []) (r2 := [s]) (M.of_guard (by simpa [andB, leI, ltI] using h1)) ?_
                refine M.of_bind (r1 := []) (r2 := [s]) (M.of_lift hz) ?_
                refine M.of_bind (r2 := []) (rdl_of hb hl) ?_
                simp only [Bool.not_eq_true] at hbx
                simp only [hbx, cond_false]
                refine M.of_bind (r1 := []) (r2 := []) (M.of_guard ho) ?_
                simp only [hc1]
                exact M.of_bind (r1 := []) (r2 := []) (M.of_guard hc2) rfl
              · exact e.elim
          · exact e.elim
        · exact e.elim
    · exact e.elim
  · rename_i n el c o k i hu
    split at e
    · rename_i z hz
      obtain ⟨h1, e⟩ := need_iff.1 e
      refine ⟨_, _, ?_, e⟩
      unfold indexAddrV
      simp only [hu]
      refine M.of_bind (r1 := []) (r2 := []) (M.of_guard (by simpa [andB, leI, ltI] using h1)) ?_
      exact M.of_bind (r1 := []) (r2 := []) (M.of_lift hz) rfl
    · exact e.elim
  · exact e.elim
theorem vcBounds_run {len cap : Nat} {lo hi : Option V} {K : Int → Int → Prop} (e : vcBounds (len : Int) (cap : Int) lo hi K) : ∃ l r : Int, boundsV len cap lo hi none = some (l.toNat, r.toNat, cap) ∧ K l r := by
  unfold vcBounds at e
  split at e
  · exact ⟨0, len, by simp [boundsV, boundOf], e⟩
  · rename_i k l
    obtain ⟨h1, e⟩ := need_iff.1 e
    simp [andB, leI] at h1
    exact ⟨l, len, by simp [boundsV, boundOf, h1.1, h1.2], e⟩
  · rename_i k r
    obtain ⟨h1, e⟩ := need_iff.1 e
    simp [andB, leI] at h1
    exact ⟨0, r, by simp [boundsV, boundOf, h1.1, h1.2], e⟩
  · rename_i k l k' r
    obtain ⟨h1, e⟩ := need_iff.1 e
    obtain ⟨h2, e⟩ := need_iff.1 e
    simp [andB, leI] at h1 h2
    have : l ≤ max r 0 := by omega
    exact ⟨l, r, by simp [boundsV, boundOf, h1.1, h1.2, h2.1, this], e⟩
  · exact e.elim
theorem vcBounds3_run {cap : Nat} {m : Int} {lo hi : Option V} {K : Int → Int → Prop} (e : vcBounds3 (cap : Int) m lo hi K) : ∃ l r : Int, (∀ (len : Nat) (k : IntKind), boundsV len cap lo hi (some (.int k m)) = some (l.toNat, r.toNat, m.toNat)) ∧ 0 ≤ l ∧ 0 ≤ m ∧ K l r := by
  unfold vcBounds3 at e
  split at e
  · rename_i k r
    obtain ⟨h1, e⟩ := need_iff.1 e
    obtain ⟨h2, e⟩ := need_iff.1 e
    simp [andB, leI] at h1 h2
    have : r ≤ max m 0 := by omega
    exact ⟨0, r, fun len k => by simp [boundsV, boundOf, h1.1, h1.2, h2.1, this], by omega, by omega, e⟩
  · rename_i k l k' r
    obtain ⟨h1, e⟩ := need_iff.1 e
    obtain ⟨h2, e⟩ := need_iff.1 e
    obtain ⟨h3, e⟩ := need_iff.1 e
    simp [andB, leI] at h1 h2 h3
    have a1 : r ≤ max m 0 := by omega
    have a2 : l ≤ max r 0 := by omega
    exact ⟨l, r, fun len k => by simp [boundsV, boundOf, h1.1, h1.2, h2.1, h3.1, a1, a2], by omega, by omega, e⟩
  · exact e.elim
theorem vcSlice_run {isStr : Bool} {x : V} {lo hi mx : Option V} {K : V → Prop} (e : vcSlice isStr x lo hi mx K) : ∃ v, sliceV isStr x lo hi mx = some v ∧ K v := by
  unfold vcSlice at e
  split at e
  · split at e
    · obtain ⟨l, r, hb, h0, h1, e⟩ := vcBounds3_run (cap := _) e
      obtain ⟨e1, e2⟩ := br_iff.1 e
      cases hm : eqI _ l with
      | true => exact ⟨_, by simp only [sliceV, hb]; rw [show Nat.beq _ _ = true from by simp [eqI] at hm; subst hm; simp]; rfl, e1 hm⟩
      | false => exact ⟨_, by simp only [sliceV, hb]; rw [show Nat.beq _ _ = false from by simp [eqI] at hm; rw [← Bool.not_eq_true, Nat.beq_eq]; omega]; rfl, e2 hm⟩
    · obtain ⟨l, r, hb, h0, h1, e⟩ := vcBounds3_run (cap := _) e
      obtain ⟨e1, e2⟩ := br_iff.1 e
      cases hm : eqI _ l with
      | true => exact ⟨_, by simp only [sliceV, hb]; rw [show Nat.beq _ _ = true from by simp [eqI] at hm; subst hm; simp]; rfl, e1 hm⟩
      | false => exact ⟨_, by simp only [sliceV, hb]; rw [show Nat.beq _ _ = false from by simp [eqI] at hm; rw [← Bool.not_eq_true, Nat.beq_eq]; omega]; rfl, e2 hm⟩
    · split at e
      · exact ⟨_, ‹_›, e⟩
      · exact e.elim
  · split at e
    · obtain ⟨l, r, hb, e⟩ := vcBounds_run (len := _) (cap := _) e
      exact ⟨_, by simp only [sliceV, hb, cutS], e⟩
    · obtain ⟨l, r, hb, e⟩ := vcBounds_run (len := _) (cap := _) e
      exact ⟨_, by simp [sliceV, hb], e⟩
    · obtain ⟨l, r, hb, e⟩ := vcBounds_run (len := _) (cap := _) e
      exact ⟨_, by simp [sliceV, hb, cutL], e⟩
    · obtain ⟨l, r, hb, e⟩ := vcBounds_run (len := 0) (cap := 0) e
      exact ⟨_, by simp only [sliceV, hb], e⟩
    · obtain ⟨l, r, hb, e⟩ := vcBounds_run (len := 0) (cap := 0) e
      exact ⟨_, by simp only [sliceV, hb], e⟩
    · exact e.elim
theorem vcAppend_run {ty site bytes z : Nat} {s x : V} {K : KK} (e : vcAppend ty site bytes z s x h K) : ∃ v u r, appendV ty site bytes z s x h = some ((v, u), r) ∧ K v u r := by
  unfold vcAppend at e
  split at e
  · rename_i news r1 hx
    obtain ⟨h1, e⟩ := need_iff.1 e
    have h1 : headOk z news = true := h1
    have nil : ∀ s tn, (s = V.nils ∧ tn = ty ∨ s = V.emp ∧ tn = 0) → need (leN (news.length * bytes) bytes47) (match newB site ⟨true, false, true, news, tn⟩ h with
      | some (u, r) => K (.ref site 0 news.length news.length) u (r1 ++ r)
      | none => False) → ∃ v u r, appendV ty site bytes z s x h = some ((v, u), r) ∧ K v u r := by
      intro s tn hs e
      obtain ⟨h2, e⟩ := need_iff.1 e
      have h2 : news.length * bytes ≤ bytes47 := by simpa [leN] using h2
      split at e
      · rename_i u r hu
        refine ⟨_, _, _, ?_, e⟩
        unfold appendV
        refine M.of_bind hx (r2 := r) ?_
        refine M.of_bind (r1 := []) (M.of_guard h1) ?_
        rcases hs with ⟨rfl, rfl⟩ | ⟨rfl, rfl⟩ <;>
        · refine M.of_bind (r1 := []) (M.of_guard (by simpa using h2)) ?_
          have := M.of_bind (f := fun u => (pure (V.ref site 0 news.length news.length, u) : M (V × Upd))) (r2 := []) hu rfl
          simpa using this
      · exact e.elim
    split at e
    · exact nil _ _ (.inl ⟨rfl, rfl⟩) e
    · exact nil _ _ (.inr ⟨rfl, rfl⟩) e
    · rename_i a off len cm _
      split at e
      · rename_i b hb
        simp only [Bool.cond_eq_ite] at e
        split at e
        · rename_i hg
          simp only [Bool.and_eq_true] at hg
          obtain ⟨hl, hg⟩ := hg
          obtain ⟨h2, e⟩ := need_iff.1 e
          have h2 : headOk z b.elems = true := h2
          obtain ⟨e1, e2⟩ := br_iff.1 e
          have hgd : (b.wr && !b.box && headOk z b.elems) = true := by rw [h2]; simpa using hg
          cases hc : leN (len + news.length) cm with
          | true =>
            refine ⟨_, _, _, ?_, e1 hc⟩
            unfold appendV
            refine M.of_bind hx (r2 := [a]) ?_
            refine M.of_bind (r1 := []) (M.of_guard h1) ?_
            simp only
            refine M.of_bind (r2 := []) (rdl_of hb hl) ?_
            refine M.of_bind (r1 := []) (M.of_guard hgd) ?_
            have hc' : decide (len + news.length ≤ cm) = true := hc
            simp only [hc', cond_true]
            rfl
          | false =>
            have e := e2 hc
            obtain ⟨h3, e⟩ := need_iff.1 e
            obtain ⟨h4, e⟩ := need_iff.1 e
            split at e
            · rename_i u r hu
              refine ⟨_, _, _, ?_, e⟩
              unfold appendV
              rw [List.append_assoc]
              refine M.of_bind hx ?_
              refine M.of_bind (r1 := []) (M.of_guard h1) ?_
              simp only
              refine M.of_bind (rdl_of hb hl) ?_
              refine M.of_bind (r1 := []) (M.of_guard hgd) ?_
              have hc' : decide (len + news.length ≤ cm) = false := hc
              simp only [hc', cond_false]
              refine M.of_bind (r1 := []) (M.of_guard (by simpa [eqN, leN] using And.intro h3 h4)) ?_
              have := M.of_bind (f := fun u => (pure (V.ref site 0 (len + news.length) (len + news.length), u ++ [(a, { b with live := false })]) : M (V × Upd))) (r2 := []) hu rfl
              rw [List.append_nil] at this; exact this
            · exact e.elim
        · exact e.elim
      · exact e.elim
    · exact e.elim
  · exact e.elim
end Go.Proofs.YthhpdnlfhofanaaGreatDoor
namespace Go.Proofs.YthhpdnlfhofanaaGreatDoor
open Go.RowKit
set_option linter.unusedVariables false
set_option linter.unusedSimpArgs false
variable {P : Program} {cfg : Cfg} {call : CallF} {ct : Ct} {h : Heap}
/-- The calls' contracts are right. -/
def CtOk (call : CallF) (ct : Ct) : Prop := ∀ f g, ct f = some g → ∀ vs bs K, g vs bs K → ∃ r out, call f vs bs = some (r, out) ∧ K r out
/-- What needs no call goes with every one. -/
theorem callV_none {site : Nat} {f : FuncId} {vs : List V} {q : (V × Upd) × List Nat} (e : callV P cfg (fun _ _ _ => none) site f vs h = some q) : callV P cfg call site f vs h = some q := by
  unfold callV at e ⊢
  cases hp : cfg.prim f with
  | some g => simpa only [hp] using e
  | none =>
    simp only [hp] at e ⊢
    cases h1 : cfg.self f with
    | true => simpa only [h1, cond_true] using e
    | false =>
      simp only [h1, cond_false] at e ⊢
      cases h2 : cfg.clone f with
      | true => simpa only [h2, cond_true] using e
      | false =>
        simp only [h2, cond_false] at e ⊢
        cases h3 : cfg.bstr f with
        | true => simpa only [h3, cond_true] using e
        | false =>
          simp only [h3, cond_false] at e
          obtain ⟨⟨v, u⟩, r⟩ := q
          cases h4 : cfg.ref f with
          | true =>
            simp only [h4, cond_true] at e
            obtain ⟨ids, r1, r2, e1, e2, _⟩ := M.inv_bind e
            obtain ⟨bs, r3, r4, e3, e4, _⟩ := M.inv_bind e2
            obtain ⟨_, r5, r6, e5, e6, _⟩ := M.inv_bind e4
            generalize renAs (renOf ids) vs = ao at e6
            generalize renBs (renOf ids) bs = bo at e6
            cases ao <;> cases bo <;> cases e6
          | false =>
            simp only [h4, cond_false] at e
            obtain ⟨⟨vs', ids⟩, r1, r2, e1, e2, _⟩ := M.inv_bind e
            cases e2
theorem vcCall0_run (hct : CtOk call ct) {site : Nat} {f : FuncId} {vs : List V} {K : KK} (e : vcCall0 P cfg ct site f vs h K) : ∃ v u r, callV P cfg call site f vs h = some ((v, u), r) ∧ K v u r := by
  unfold vcCall0 at e
  split at e
  · split at e
    · exact ⟨_, _, _, callV_none ‹_›, e⟩
    · exact e.elim
  · rename_i g hg
    simp only [Bool.cond_eq_ite] at e
    split at e
    · exact e.elim
    · rename_i hn
      simp only [Bool.or_eq_true, not_or, Bool.not_eq_true] at hn
      obtain ⟨⟨⟨hp, h1⟩, h2⟩, h3⟩ := hn
      have hp : cfg.prim f = none := by simpa using hp
      split at e
      · rename_i h4
        split at e
        · rename_i ids bs r hr
          obtain ⟨ids', r1, r2, e1, e2, rfl⟩ := M.inv_bind hr
          obtain ⟨bs', r3, r4, e3, e4, rfl⟩ := M.inv_bind e2
          obtain ⟨_, r5, r6, e5, e6, rfl⟩ := M.inv_bind e4
          obtain ⟨hq, rfl⟩ := M.inv_pure e6
          injection hq with q1 q2
          subst q1 q2
          split at e
          · rename_i vs' bs'' hra hrb
            obtain ⟨res, out, hcl, e⟩ := hct f g hg _ _ _ e
            split at e
            · rename_i v u r' hb
              refine ⟨v, u, _, ?_, e⟩
              unfold callV
              simp only [hp, h1, h2, h3, h4, cond_true, cond_false]
              rw [show r1 ++ (r3 ++ (r5 ++ [])) ++ r' = r1 ++ (r3 ++ (r5 ++ r')) by simp]
              refine M.of_bind e1 ?_
              refine M.of_bind e3 ?_
              refine M.of_bind e5 ?_
              simp only [hra, hrb, hcl]
              exact hb
            · exact e.elim
          · exact e.elim
        · exact e.elim
      · rename_i h4
        have h4 : cfg.ref f = false := by simpa using h4
        split at e
        · rename_i vs' ids r hr
          obtain ⟨res, out, hcl, e⟩ := hct f g hg _ _ _ e
          have fin : ∀ {v u r'}, (match call f vs' [] with
            | some (r, out) =>
              bif r.scalar then do
                M.guard out.isEmpty
                pure (r, [])
              else do
                let z ← freeze ids
                let (r, u) ← bring site [] r out
                pure (r, u ++ z)
            | none => M.fail : M (V × Upd)) h = some ((v, u), r') → callV P cfg call site f vs h = some ((v, u), r ++ r') := by
            intro v u r' hh
            unfold callV
            simp only [hp, h1, h2, h3, h4, cond_true, cond_false]
            exact M.of_bind hr hh
          simp only [hcl] at fin
          split at e
          · rename_i hs
            split at e
            · rename_i ho
              refine ⟨res, [], r ++ [], fin ?_, by simpa using e⟩
              simp only [hs, cond_true]
              exact M.of_bind (r1 := []) (M.of_guard ho) rfl
            · exact e.elim
          · rename_i hs
            have hs : res.scalar = false := by simpa using hs
            split at e
            · rename_i v u r' hb
              refine ⟨v, u, _, fin ?_, e⟩
              simp only [hs, cond_false]
              exact hb
            · exact e.elim
        · exact e.elim
theorem vcPrim_run {g : List V → Option (Bool × V)} {site : Nat} {f : FuncId} (hg : cfg.prim f = some g) {vs : List V} {K : KK} (e : vcPrim g vs h K) : ∃ v u r, callV P cfg call site f vs h = some ((v, u), r) ∧ K v u r := by
  unfold vcPrim at e
  split at e
  · rename_i vs' ids r1 h1
    split at e
    · rename_i c res hgv
      have e2 := need_iff.1 e
      clear e
      obtain ⟨hc, e⟩ := e2
      subst hc
      simp only [Bool.cond_eq_ite] at e
      split at e
      · rename_i htb
        have fin : ∀ {q r2}, (bif res.scalar then pure (res, []) else do
            let z ← freeze ids
            pure (res, z) : M (V × Upd)) h = some (q, r2) → callV P cfg call site f vs h = some (q, r1 ++ r2) := by
          intro q r2 hq
          unfold callV
          simp only [hg]
          refine M.of_bind h1 ?_
          simp only [hgv]
          exact M.of_bind (r1 := []) (M.of_guard (by rw [htb]; rfl)) hq
        split at e
        · rename_i hs
          refine ⟨res, [], r1 ++ [], fin ?_, by simpa using e⟩
          rw [hs]; rfl
        · rename_i hs
          have hs : res.scalar = false := by simpa using hs
          split at e
          · rename_i z r2 hz
            refine ⟨res, z, _, fin ?_, e⟩
            rw [hs]
            have := M.of_bind (f := fun z => (pure (res, z) : M (V × Upd))) (r2 := []) hz rfl
            simpa using this
          · exact e.elim
      · exact e.elim
    · exact e.elim
  · exact e.elim
theorem vcClone_run {site : Nat} {f : FuncId} {vs : List V} {K : KK} (e : vcClone P site f vs h K) : ∃ v u r, cloneV P site f vs h = some ((v, u), r) ∧ K v u r := by
  unfold vcClone at e
  split at e
  · rename_i x t ht
    split at e
    · rename_i el hu
      simp only [Bool.cond_eq_ite] at e
      split at e
      · exact e.elim
      rename_i hne
      split at e
      · rename_i n z es r1 hn hz he
        split at e
        · rename_i hz1
          obtain ⟨h1, e⟩ := need_iff.1 e
          obtain ⟨h2, e⟩ := need_iff.1 e
          split at e
          · rename_i u r2 hb
            refine ⟨_, u, _, ?_, e⟩
            unfold cloneV
            simp only [ht, hu]
            have hg : (Nat.ble 1 z && headOk z es && decide (es.length * n ≤ bytes47)) = true := by
              have h1 : headOk z es = true := h1
              have h2 : decide (es.length * n ≤ bytes47) = true := h2
              rw [hz1, h1, h2]; rfl
            have main : (do
                let n ← M.lift (bytesT P el)
                let z ← M.lift (szT P el)
                let es ← elemsOf x
                M.guard (Nat.ble 1 z && headOk z es && decide (es.length * n ≤ bytes47))
                pure (V.ref site 0 es.length es.length, ← newB site ⟨true, false, true, es, 0⟩) : M (V × Upd)) h = some ((V.ref site 0 es.length es.length, u), r1 ++ r2) := by
              refine M.of_bind (r1 := []) (M.of_lift hn) ?_
              refine M.of_bind (r1 := []) (M.of_lift hz) ?_
              refine M.of_bind he ?_
              refine M.of_bind (r1 := []) (M.of_guard hg) ?_
              have := M.of_bind (f := fun u => (pure (V.ref site 0 es.length es.length, u) : M (V × Upd))) (r2 := []) hb rfl
              simpa using this
            cases x <;> first | exact main | exact absurd rfl hne
          · exact e.elim
        · exact e.elim
      · exact e.elim
    · exact e.elim
  · exact e.elim
theorem vcIns_run {site : Nat} {f : FuncId} {vs : List V} {K : KK} (e : vcIns P site f vs h K) : ∃ v u r, insV P site f vs h = some ((v, u), r) ∧ K v u r := by
  unfold vcIns at e
  split at e
  · rename_i g el hA hE
    split at e
    · rename_i n z news r1 b2 r2 b r3 hn hz hnews hb2 hb
      simp only [Bool.cond_eq_ite] at e
      split at e
      · rename_i h1
        obtain ⟨q1, e⟩ := need_iff.1 e
        obtain ⟨q2, e⟩ := need_iff.1 e
        obtain ⟨q3, e⟩ := need_iff.1 e
        obtain ⟨q4, e⟩ := need_iff.1 e
        have g2 : (headOk z news && headOk z b.elems && (decide (0 ≤ g.i) && decide (g.i ≤ (g.len : Int))) && decide ((g.len + news.length) * n ≤ bytes47)) = true := by
          have q1 : headOk z news = true := q1
          have q2 : headOk z b.elems = true := q2
          have q3 : (decide (0 ≤ g.i) && decide (g.i ≤ (g.len : Int))) = true := q3
          have q4 : decide ((g.len + news.length) * n ≤ bytes47) = true := q4
          rw [q1, q2, q3, q4]; rfl
        have start : ∀ {v : V × Upd} {r : List Nat}, (bif decide (g.len + news.length ≤ g.cm) then
            pure (V.ref g.a g.off (g.len + news.length) g.cm, [(g.a, { b with elems := b.elems.take (g.off + g.i.toNat) ++ (news ++ ((b.elems.drop g.off).take g.len).drop g.i.toNat) ++ b.elems.drop (g.off + g.len + news.length) })])
          else do
            M.guard (decide (g.off + g.len = b.elems.length))
            let u ← newB site ⟨true, false, true, ((b.elems.drop g.off).take g.len).take g.i.toNat ++ (news ++ ((b.elems.drop g.off).take g.len).drop g.i.toNat), 0⟩
            pure (V.ref site 0 (g.len + news.length) (g.len + news.length), u ++ [(g.a, { b with live := false })]) : M (V × Upd)) h = some (v, r) → insV P site f vs h = some (v, r1 ++ (r2 ++ (r3 ++ r))) := fun {v r} hm => by
          unfold insV
          refine M.of_bind (r1 := []) (M.of_lift hA) ?_
          refine M.of_bind (r1 := []) (M.of_lift hE) ?_
          refine M.of_bind (r1 := []) (M.of_lift hn) ?_
          refine M.of_bind (r1 := []) (M.of_lift hz) ?_
          refine M.of_bind hnews ?_
          refine M.of_bind hb2 ?_
          refine M.of_bind hb ?_
          refine M.of_bind (r1 := []) (M.of_guard h1) ?_
          exact M.of_bind (r1 := []) (M.of_guard g2) hm
        rcases br_iff.1 e with ⟨et, ef⟩
        cases hc : leN (g.len + news.length) g.cm with
        | true =>
          have hd : decide (g.len + news.length ≤ g.cm) = true := hc
          refine ⟨_, _, _, start (r := []) (by rw [hd]; rfl), ?_⟩
          rw [List.append_nil]
          exact et hc
        | false =>
          have hd : decide (g.len + news.length ≤ g.cm) = false := hc
          obtain ⟨q5, e⟩ := need_iff.1 (ef hc)
          split at e
          · rename_i u r4 hu
            refine ⟨_, _, _, start (r := [] ++ (r4 ++ [])) (by rw [hd]; exact M.of_bind (r1 := []) (M.of_guard q5) (M.of_bind hu rfl)), ?_⟩
            rw [List.append_nil, List.nil_append]
            exact e
          · exact e.elim
      · exact e.elim
    · exact e.elim
  · exact e.elim
theorem vcOwn_run {site : Nat} {f : FuncId} {vs : List V} {K : KK} (e : vcOwn P site f vs h K) : ∃ v u r, ownV P site f vs h = some ((v, u), r) ∧ K v u r := by
  unfold vcOwn at e
  unfold ownV
  cases hc : Nat.beq (((P.funcs[f]?).map fun fn => fn.params.size).getD 0) 3 with
  | true => rw [hc] at e; exact vcIns_run e
  | false => rw [hc] at e; exact vcClone_run e
theorem vcBstr_run {bld : Nat} {vs : List V} {K : KK} (e : vcBstr bld vs h K) : ∃ v u r, bstrV bld vs h = some ((v, u), r) ∧ K v u r := by
  unfold vcBstr at e
  split at e
  · rename_i s
    split at e
    · rename_i b hb
      simp only [Bool.cond_eq_ite] at e
      split at e
      · rename_i hg
        simp only [Bool.and_eq_true] at hg
        split at e
        · rename_i y x hel
          split at e
          · refine ⟨_, _, _, ?_, e⟩
            unfold bstrV
            simp only
            refine M.of_bind (r2 := []) (rdl_of hb hg.1) ?_
            refine M.of_bind (r1 := []) (M.of_guard (by simpa only [Bool.and_eq_true] using hg.2)) ?_
            simp only [hel]
            rfl
          · rename_i a len cm
            split at e
            · rename_i c hc
              split at e
              · rename_i hg2
                simp only [Bool.and_eq_true] at hg2
                obtain ⟨h1, e⟩ := need_iff.1 e
                obtain ⟨hex, e⟩ := need_iff.1 e
                obtain ⟨hle, e⟩ := need_iff.1 e
                obtain ⟨l, hl⟩ := Option.isSome_iff_exists.1 (show (bytesV (c.elems.take len)).isSome = true from h1)
                have hl2 : bytesOf (c.elems.take len) = l := by simp [bytesOf, hl]
                rw [hl2] at e
                refine ⟨_, _, _, ?_, e⟩
                unfold bstrV
                simp only
                refine M.of_bind (r2 := [a]) (rdl_of hb hg.1) ?_
                refine M.of_bind (r1 := []) (M.of_guard (by simpa only [Bool.and_eq_true] using hg.2)) ?_
                simp only [hel]
                refine M.of_bind (r2 := []) (rdl_of hc hg2.1) ?_
                refine M.of_bind (r1 := []) (M.of_guard (by simpa only [Bool.and_eq_true] using hg2.2)) ?_
                simp only [hl]
                exact M.of_bind (r1 := []) (M.of_guard (by rw [hex]; simpa [leN] using hle)) rfl
              · exact e.elim
            · exact e.elim
          · exact e.elim
        · exact e.elim
      · exact e.elim
    · exact e.elim
  · exact e.elim
theorem vcCopy_run {z : Nat} {d x : V} {K : KK} (e : vcCopy z d x h K) : ∃ v u r, copyV z d x h = some ((v, u), r) ∧ K v u r := by
  unfold vcCopy at e
  split at e
  · rename_i es r1 he
    obtain ⟨h1, e⟩ := need_iff.1 e
    have fin : ∀ {q r2}, (match (generalizing := false) d with
        | .ref a off len _ => do
          let b ← rdl a
          M.guard (b.wr && !b.box && headOk z b.elems)
          let n := min es.length len
          pure (.int .i64 n, [(a, { b with elems := b.elems.take off ++ es.take n ++ b.elems.drop (off + n) })])
        | .nils | .emp => pure (.int .i64 0, [])
        | _ => M.fail : M (V × Upd)) h = some (q, r2) → copyV z d x h = some (q, r1 ++ r2) := by
      intro q r2 hq
      unfold copyV
      refine M.of_bind he ?_
      exact M.of_bind (r1 := []) (M.of_guard h1) hq
    split at e
    · rename_i a off len cm
      split at e
      · rename_i b hb
        simp only [Bool.cond_eq_ite] at e
        split at e
        · rename_i hg
          simp only [Bool.and_eq_true] at hg
          obtain ⟨h2, e⟩ := need_iff.1 e
          refine ⟨_, _, _, fin ?_, e⟩
          simp only
          refine M.of_bind (r2 := []) (rdl_of hb hg.1) ?_
          refine M.of_bind (r1 := []) (M.of_guard ?_) rfl
          have h2 : headOk z b.elems = true := h2
          rw [hg.2.1, h2]
          simpa using hg.2.2
        · exact e.elim
      · exact e.elim
    · exact ⟨_, _, r1 ++ [], fin rfl, by simpa using e⟩
    · exact ⟨_, _, r1 ++ [], fin rfl, by simpa using e⟩
    · exact e.elim
  · exact e.elim
theorem minFromI_eq (k : IntKind) : ∀ (l : List V) (a : Int), minFromI k a l = minFrom k a l
  | [], a => rfl
  | v :: t, a => by
    cases v <;> first | rfl | exact minFromI_eq k t _
theorem maxFromI_eq (k : IntKind) : ∀ (l : List V) (a : Int), maxFromI k a l = maxFrom k a l
  | [], a => rfl
  | v :: t, a => by
    cases v <;> first | rfl | exact maxFromI_eq k t _
theorem minVI_eq (l : List V) : minVI l = minV l := by
  cases l with
  | nil => rfl
  | cons v t => cases v <;> first | rfl | exact minFromI_eq _ t _
theorem maxVI_eq (l : List V) : maxVI l = maxV l := by
  cases l with
  | nil => rfl
  | cons v t => cases v <;> first | rfl | exact maxFromI_eq _ t _
theorem vcPart_run {e : TypeId} {cs : List V} {z : Nat} {i : Int} {K : V → Prop} : ∀ {n k : Nat}, vcPart P e cs z i K n k → ∃ v, partT P e cs (i.toNat * z) = some v ∧ K v
  | 0, k, h => h.elim
  | n + 1, k, h => by
    simp only [vcPart] at h
    obtain ⟨h1, h2⟩ := br_iff.1 h
    cases hi : eqI i (Int.ofNat k) with
    | true =>
      have hik : i = Int.ofNat k := by simpa [eqI] using hi
      have h1 := h1 hi
      split at h1
      · rename_i v hv
        refine ⟨v, ?_, h1⟩
        rw [hik]; exact hv
      · exact h1.elim
    | false => exact vcPart_run (h2 hi)
theorem vcCall_run (hct : CtOk call ct) {site : Nat} {f : FuncId} {vs : List V} {K : KK} (e : vcCall P cfg ct site f vs h K) : ∃ v u r, callV P cfg call site f vs h = some ((v, u), r) ∧ K v u r := by
  unfold vcCall at e
  split at e
  · rename_i g hg
    exact vcPrim_run hg e
  · rename_i hp
    simp only [Bool.cond_eq_ite] at e
    split at e
    · rename_i h1
      unfold vcSelf at e
      split at e
      · rename_i v u r hv
        refine ⟨v, u, r, ?_, e⟩
        unfold callV
        simp only [hp, h1, cond_true]
        exact hv
      · exact e.elim
    · rename_i h1
      split at e
      · rename_i h2
        obtain ⟨v, u, r, hv, e⟩ := vcOwn_run e
        refine ⟨v, u, r, ?_, e⟩
        unfold callV
        have h1 : cfg.self f = false := by simpa using h1
        simp only [hp, h1, h2, cond_true, cond_false]
        exact hv
      · rename_i h2
        split at e
        · rename_i h3
          obtain ⟨v, u, r, hv, e⟩ := vcBstr_run e
          refine ⟨v, u, r, ?_, e⟩
          unfold callV
          have h1 : cfg.self f = false := by simpa using h1
          have h2 : cfg.clone f = false := by simpa using h2
          simp only [hp, h1, h2, h3, cond_true, cond_false]
          exact hv
        · exact vcCall0_run hct e
theorem vcDflt_run {site : Nat} {ts : Tmps} {o : Oper} {K : KK} (hs : ∀ c, o.op = .call c → ∃ b, c.callee = .builtin b) (e : vcDflt P cfg (fun _ _ _ => none) site ts o h K) : ∃ v u r, evOp P cfg call site ts o h = some ((v, u), r) ∧ K v u r := by
  unfold vcDflt at e
  split at e
  · rename_i v u r hh
    refine ⟨v, u, r, ?_, e⟩
    obtain ⟨dst, op, type, pos, after, guard⟩ := o
    cases op
    case call c =>
      obtain ⟨b, hb⟩ := hs c rfl
      obtain ⟨callee, args, argTypes⟩ := c
      simp only at hb
      subst hb
      exact hh
    case makeFunc a b c => cases a <;> exact hh
    case next a b => cases b <;> exact hh
    all_goals exact hh
  · exact e.elim
end Go.Proofs.YthhpdnlfhofanaaGreatDoor
namespace Go.Proofs.YthhpdnlfhofanaaGreatDoor
open Go.RowKit
set_option linter.unusedVariables false
set_option linter.unusedSimpArgs false
variable {P : Program} {cfg : Cfg} {call : CallF} {ct : Ct} {h : Heap}
theorem opt_of {o : Option V} {v : V} (e : o = some v) : opt o h = some ((v, []), []) := by subst e; rfl
theorem findOk_cases {kt : TypeId} {kk : IntKind} {k : V} {es : List (List V)} (e : findOk P kt kk k es = true) :
    (findM P kt k es 0 = some none ∧ findI P kt k es = 0 ∧ findB P kt k es = false) ∨ ∃ i n, findM P kt k es 0 = some (some (i, .int kk n)) ∧ findI P kt k es = n ∧ findB P kt k es = true := by
  unfold findOk at e
  split at e
  · rename_i h
    exact .inl ⟨h, by simp [findI, h], by simp [findB, h]⟩
  · rename_i i k2 n h
    have := of_decide_eq_true e
    subst this
    exact .inr ⟨i, n, h, by simp [findI, h], by simp [findB, h]⟩
  · cases e
theorem vcLookup_run {t : TypeId} {x k : V} {ok : Bool} {K : KK} (e : vcLookup P t x k ok h K) :
    ∃ kt et s b v, P.underlying t = some (.map kt et) ∧ x = .map s ∧ hget h s = some b ∧ b.live = true ∧ keyV P 100 kt k = true ∧ lookupV P kt et k ok b.elems = some v ∧ K v [] [s] := by
  unfold vcLookup at e
  split at e
  · rename_i kt et s hu
    split at e
    · rename_i b kk z hb hz
      simp only [Bool.cond_eq_ite] at e
      split at e
      · rename_i hg
        simp only [Bool.and_eq_true] at hg
        obtain ⟨⟨hl, hk⟩, hz0⟩ := hg
        have hz0 := of_decide_eq_true hz0
        subst hz0
        obtain ⟨h1, e⟩ := need_iff.1 e
        rcases findOk_cases h1 with ⟨h2, h3, h4⟩ | ⟨i, n, h2, h3, h4⟩
        · rw [h3, h4] at e
          cases ok
          · exact ⟨kt, et, s, b, _, hu, rfl, hb, hl, hk, by simp only [lookupV, h2, hz]; rfl, e⟩
          · exact ⟨kt, et, s, b, _, hu, rfl, hb, hl, hk, by simp only [lookupV, h2, hz]; rfl, e⟩
        · rw [h3, h4] at e
          cases ok
          · exact ⟨kt, et, s, b, _, hu, rfl, hb, hl, hk, by simp only [lookupV, h2, hz]; rfl, e⟩
          · exact ⟨kt, et, s, b, _, hu, rfl, hb, hl, hk, by simp only [lookupV, h2, hz]; rfl, e⟩
      · exact e.elim
    · exact e.elim
  · exact e.elim
theorem vcOp_run (hct : CtOk call ct) {site : Nat} {ts : Tmps} {o : Oper} {K : KK} (e : vcOp P cfg ct site ts o h K) : ∃ v u r, evOp P cfg call site ts o h = some ((v, u), r) ∧ K v u r := by
  obtain ⟨dst, op, type, pos, after, guard⟩ := o
  cases op
  case binOp op t x y yt =>
    simp only [vcOp] at e
    split at e
    · rename_i a b ha hb
      obtain ⟨v, hv, e⟩ := vcBin_run P e
      refine ⟨_, _, _, ?_, e⟩
      simp only [evOp, ha, hb]
      exact opt_of hv
    · exact e.elim
  case unOp op t x =>
    simp only [vcOp] at e
    split at e
    · rename_i k a hx
      refine ⟨_, _, _, ?_, e⟩
      simp only [evOp, hx]
      exact opt_of rfl
    · rename_i b hx
      refine ⟨_, _, _, ?_, e⟩
      simp only [evOp, hx]
      exact opt_of rfl
    · exact e.elim
  case convert src dst x =>
    simp only [vcOp] at e
    split at e
    · rename_i d k kk n hs hd hx
      refine ⟨_, _, _, ?_, e⟩
      simp only [evOp, hx]
      refine M.of_bind (r1 := []) (M.of_lift rfl) ?_
      simp only [convV, hs, hd]
      rfl
    · rename_i s hs hd hx
      refine ⟨_, _, _, ?_, e⟩
      simp only [evOp, hx]
      refine M.of_bind (r1 := []) (M.of_lift rfl) ?_
      simp only [convV, hs, hd]
      rfl
    · rename_i el x hs hd hx
      split at e
      · rename_i hu
        split at e
        · exact e.elim
        · rename_i x' hne
          split at e
          · rename_i es r he
            obtain ⟨h1, e⟩ := need_iff.1 e
            obtain ⟨s, hsb⟩ := Option.isSome_iff_exists.1 (show (bytesV es).isSome = true from h1)
            refine ⟨_, _, _, ?_, e⟩
            simp only [evOp, hx]
            refine M.of_bind (r1 := []) (M.of_lift rfl) ?_
            simp only [convV, hs, hd, hu]
            rw [← List.append_nil r]
            refine M.of_bind he ?_
            have : opt ((bytesV es).map V.str) h = some ((V.str (bytesOf es), []), []) := opt_of (by rw [hsb]; simp [bytesOf, hsb])
            cases x' <;> first | exact absurd rfl (hne _) | exact this
          · exact e.elim
      · exact e.elim
    · exact e.elim
  case load t p =>
    simp only [vcOp] at e
    split at e
    · rename_i p' hp
      obtain ⟨v, r, hv, e⟩ := vcLoad_run e
      refine ⟨_, _, _, ?_, e⟩
      simp only [evOp, hp]
      refine M.of_bind (r1 := []) (M.of_lift rfl) ?_
      rw [← List.append_nil r]
      exact M.of_bind hv rfl
    · exact e.elim
  case store t p x =>
    simp only [vcOp] at e
    split at e
    · rename_i p' x' hp hx
      obtain ⟨v, u, r, hv, e⟩ := vcStore_run e
      refine ⟨_, _, _, ?_, e⟩
      simp only [evOp, hp, hx]
      refine M.of_bind (r1 := []) (M.of_lift rfl) ?_
      exact M.of_bind (r1 := []) (M.of_lift rfl) hv
    · exact e.elim
  case indexAddr t x i =>
    simp only [vcOp] at e
    split at e
    · rename_i x' i' hx hi
      obtain ⟨v, r, hv, e⟩ := vcIndexAddr_run e
      refine ⟨_, _, _, ?_, e⟩
      simp only [evOp, hx, hi]
      refine M.of_bind (r1 := []) (M.of_lift rfl) ?_
      refine M.of_bind (r1 := []) (M.of_lift rfl) ?_
      rw [← List.append_nil r]
      exact M.of_bind hv rfl
    · exact e.elim
  case index t x i =>
    simp only [vcOp] at e
    split at e
    · rename_i s k i' hu hx hi
      obtain ⟨h1, e⟩ := need_iff.1 e
      have h1 : 0 ≤ i' ∧ i' < s.length := by
        simp only [andB, leI, ltI, lenS, Bool.and_eq_true] at h1
        exact ⟨of_decide_eq_true h1.1, of_decide_eq_true h1.2⟩
      refine ⟨_, _, _, ?_, e⟩
      simp only [evOp, hx, hi]
      refine opt_of ?_
      have hlt : i'.toNat < s.length := by omega
      simp [indexV, hu, h1.1, atS, List.getD, hlt]
    · rename_i n el cs k i' hu hx hi
      split at e
      · rename_i z hz
        obtain ⟨h1, e⟩ := need_iff.1 e
        obtain ⟨v, hv, e⟩ := vcPart_run e
        refine ⟨_, _, _, ?_, e⟩
        simp only [evOp, hx, hi]
        refine opt_of ?_
        have h1 : (decide (0 ≤ i') && decide (i' < (n : Int))) = true := h1
        simp only [indexV, hu, h1, cond_true, hz]
        exact hv
      · exact e.elim
    · exact vcDflt_run (fun c hc => by cases hc) e
  case slice t x lo hi mx =>
    simp only [vcOp] at e
    split at e
    · rename_i x' lo' hi' mx' hu hx hlo hhi hmx
      obtain ⟨v, hv, e⟩ := vcSlice_run e
      refine ⟨_, _, _, ?_, e⟩
      simp only [evOp, hx, hlo, hhi, hmx]
      refine M.of_bind (r1 := []) (M.of_lift rfl) ?_
      refine M.of_bind (r1 := []) (M.of_lift rfl) ?_
      refine M.of_bind (r1 := []) (M.of_lift rfl) ?_
      refine M.of_bind (r1 := []) (M.of_lift rfl) ?_
      simp only [hu]
      exact opt_of hv
    · rename_i el x' lo' hi' mx' hu hx hlo hhi hmx
      split at e
      · rename_i z hz
        have fin : ∀ {v : V} {r : List Nat}, (match (generalizing := false) x' with
          | .ref s _ _ _ => do
            let b ← rdl s
            M.guard (headOk z b.elems)
            opt (sliceV false x' lo' hi' mx')
          | .lst xs => do
            M.guard (headOk z xs)
            opt (sliceV false x' lo' hi' mx')
          | _ => opt (sliceV false x' lo' hi' mx') : M (V × Upd)) h = some ((v, []), r) → evOp P cfg call site ts ⟨dst, .slice t x lo hi mx, type, pos, after, guard⟩ h = some ((v, []), r) := by
          intro v r hh
          simp only [evOp, hx, hlo, hhi, hmx]
          refine M.of_bind (r1 := []) (M.of_lift rfl) ?_
          refine M.of_bind (r1 := []) (M.of_lift rfl) ?_
          refine M.of_bind (r1 := []) (M.of_lift rfl) ?_
          refine M.of_bind (r1 := []) (M.of_lift rfl) ?_
          simp only [hu]
          exact M.of_bind (r1 := []) (M.of_lift hz) hh
        split at e
        · rename_i s off len cm
          split at e
          · rename_i b hb
            simp only [Bool.cond_eq_ite] at e
            split at e
            · rename_i hl
              obtain ⟨h1, e⟩ := need_iff.1 e
              obtain ⟨v, hv, e⟩ := vcSlice_run e
              refine ⟨_, _, _, fin ?_, e⟩
              simp only
              refine M.of_bind (r2 := []) (rdl_of hb hl) ?_
              exact M.of_bind (r1 := []) (M.of_guard h1) (opt_of hv)
            · exact e.elim
          · exact e.elim
        · rename_i xs
          obtain ⟨h1, e⟩ := need_iff.1 e
          obtain ⟨v, hv, e⟩ := vcSlice_run e
          refine ⟨_, _, _, fin ?_, e⟩
          simp only
          exact M.of_bind (r1 := []) (M.of_guard h1) (opt_of hv)
        · rename_i n1 n2
          obtain ⟨v, hv, e⟩ := vcSlice_run e
          refine ⟨_, _, _, fin ?_, e⟩
          cases x' <;> first | exact opt_of hv | exact absurd rfl (n1 _ _ _ _) | exact absurd rfl (n2 _)
      · exact e.elim
    · rename_i n el s lo' hi' hu hx hlo hhi hmx
      split at e
      · rename_i z b hz hb
        simp only [Bool.cond_eq_ite] at e
        split at e
        · rename_i hg
          simp only [Bool.and_eq_true] at hg
          obtain ⟨h1, e⟩ := need_iff.1 e
          obtain ⟨h2, e⟩ := need_iff.1 e
          obtain ⟨v, hv, e⟩ := vcSlice_run e
          refine ⟨_, _, _, ?_, e⟩
          simp only [evOp, hx, hlo, hhi, hmx]
          refine M.of_bind (r1 := []) (M.of_lift rfl) ?_
          refine M.of_bind (r1 := []) (M.of_lift rfl) ?_
          refine M.of_bind (r1 := []) (M.of_lift rfl) ?_
          refine M.of_bind (r1 := []) (M.of_lift rfl) ?_
          simp only [hu]
          refine M.of_bind (r1 := []) (M.of_lift hz) ?_
          refine M.of_bind (r2 := []) (rdl_of hb hg.1) ?_
          refine M.of_bind (r1 := []) (M.of_guard ?_) (opt_of hv)
          have h1 : headOk z b.elems = true := h1
          have h2 : n ≤ b.elems.length := by simpa [leN] using h2
          rw [hg.2, h1, Nat.ble_eq_true_of_le h2]
          rfl
        · exact e.elim
      · exact e.elim
    · exact e.elim
  case pick c a b =>
    simp only [vcOp] at e
    split at e
    · rename_i c' a' b' hc ha hb
      obtain ⟨e1, e2⟩ := br_iff.1 e
      cases c' with
      | true =>
        refine ⟨_, _, _, ?_, e1 rfl⟩
        simp only [evOp, hc]
        exact opt_of ha
      | false =>
        refine ⟨_, _, _, ?_, e2 rfl⟩
        simp only [evOp, hc]
        exact opt_of hb
    · rename_i c' a' hc ha hb
      obtain ⟨h1, e⟩ := need_iff.1 e
      subst h1
      refine ⟨_, _, _, ?_, e⟩
      simp only [evOp, hc]
      exact opt_of ha
    · rename_i c' b' hc ha hb
      obtain ⟨h1, e⟩ := need_iff.1 e
      cases c' with
      | true => cases h1
      | false =>
        refine ⟨_, _, _, ?_, e⟩
        simp only [evOp, hc]
        exact opt_of hb
    · exact e.elim
  case makeSlice t l c =>
    simp only [vcOp] at e
    split at e
    · rename_i el k l' k' c' hu hl hc
      split at e
      · rename_i n s z hn hs hz
        obtain ⟨h1, e⟩ := need_iff.1 e
        obtain ⟨h2, e⟩ := need_iff.1 e
        obtain ⟨h3, e⟩ := need_iff.1 e
        simp only [Bool.cond_eq_ite] at e
        split at e
        · rename_i hg
          split at e
          · rename_i u r hb
            refine ⟨_, _, _, ?_, e⟩
            simp only [evOp, hu, hl, hc]
            refine M.of_bind (r1 := []) (M.of_lift hn) ?_
            refine M.of_bind (r1 := []) (M.of_lift hs) ?_
            simp only [hz]
            refine M.of_bind (r1 := []) (M.of_guard ?_) ?_
            · simp only [andB, leI, leN, Bool.and_eq_true, decide_eq_true_eq] at h1 h2 h3 hg ⊢
              exact ⟨⟨⟨⟨⟨⟨h1.1, h1.2⟩, h2⟩, h3⟩, hg.1.1⟩, hg.1.2⟩, hg.2⟩
            · have := M.of_bind (f := fun u => (pure (V.ref site 0 l'.toNat c'.toNat, u) : M (V × Upd))) (r2 := []) hb rfl
              simpa using this
          · exact e.elim
        · exact e.elim
      · exact e.elim
    · exact e.elim
  case lookup t x k ok =>
    simp only [vcOp] at e
    split at e
    · rename_i x' k' hx hk
      obtain ⟨kt, et, s, b, v, hu, rfl, hb, hl, hkv, hv, e⟩ := vcLookup_run e
      refine ⟨_, _, _, ?_, e⟩
      simp only [evOp, hx, hk]
      refine M.of_bind (r1 := []) (M.of_lift rfl) ?_
      refine M.of_bind (r1 := []) (M.of_lift rfl) ?_
      simp only [hu]
      refine M.of_bind (r2 := []) (rdl_of hb hl) ?_
      exact M.of_bind (r1 := []) (M.of_guard hkv) (opt_of hv)
    · exact e.elim
  case mapEntry t x k =>
    simp only [vcOp] at e
    split at e
    · rename_i x' k' hx hk
      unfold vcEntry at e
      split at e
      · rename_i kt et s hu
        split at e
        · rename_i b z hb hz
          simp only [Bool.cond_eq_ite] at e
          split at e
          · rename_i hg
            simp only [Bool.and_eq_true] at hg
            obtain ⟨⟨hl, hg⟩, hzt⟩ := hg
            obtain ⟨h1, e⟩ := need_iff.1 e
            have hf : findM P kt k' b.elems 0 = some none := by
              unfold findNo at h1
              split at h1
              · assumption
              · cases h1
            refine ⟨_, _, _, ?_, e⟩
            simp only [evOp, hx, hk]
            refine M.of_bind (r1 := []) (M.of_lift rfl) ?_
            refine M.of_bind (r1 := []) (M.of_lift rfl) ?_
            simp only [hu]
            refine M.of_bind (r2 := []) (rdl_of hb hl) ?_
            refine M.of_bind (r1 := []) (M.of_guard (by simp only [Bool.and_eq_true]; exact hg)) ?_
            simp only [hf, hz]
            exact M.of_bind (r1 := []) (M.of_guard hzt) rfl
          · exact e.elim
        · exact e.elim
      · exact e.elim
    · exact e.elim
  case mapUpdate t x k v =>
    simp only [vcOp] at e
    split at e
    · rename_i x' k' v' hx hk hv
      unfold vcUpdate at e
      split at e
      · rename_i kt et s hu
        split at e
        · rename_i b hb
          simp only [Bool.cond_eq_ite] at e
          split at e
          · rename_i hg
            simp only [Bool.and_eq_true] at hg
            obtain ⟨hl, hg⟩ := hg
            obtain ⟨h1, e⟩ := need_iff.1 e
            have hf : findM P kt k' b.elems 0 = some none := by
              unfold findNo at h1
              split at h1
              · assumption
              · cases h1
            refine ⟨_, _, _, ?_, e⟩
            simp only [evOp, hx, hk, hv]
            refine M.of_bind (r1 := []) (M.of_lift rfl) ?_
            refine M.of_bind (r1 := []) (M.of_lift rfl) ?_
            refine M.of_bind (r1 := []) (M.of_lift rfl) ?_
            simp only [hu]
            refine M.of_bind (r2 := []) (rdl_of hb hl) ?_
            refine M.of_bind (r1 := []) (M.of_guard (by simp only [Bool.and_eq_true]; exact hg)) ?_
            simp only [hf]
            rfl
          · exact e.elim
        · exact e.elim
      · exact e.elim
    · exact e.elim
  case entryStore t x i v =>
    simp only [vcOp] at e
    split at e
    · rename_i x' i' v' hx hi hv
      unfold vcEntryStore at e
      split at e
      · rename_i s k i
        split at e
        · rename_i b hb
          simp only [Bool.cond_eq_ite] at e
          split at e
          · rename_i hg
            simp only [Bool.and_eq_true] at hg
            obtain ⟨hl, hw, hvt⟩ := hg
            obtain ⟨h1, key, hkey, e⟩ := need_iff.1 e
            refine ⟨_, _, _, ?_, e⟩
            simp only [evOp, hx, hi, hv]
            refine M.of_bind (r1 := []) (M.of_lift rfl) ?_
            refine M.of_bind (r1 := []) (M.of_lift rfl) ?_
            refine M.of_bind (r1 := []) (M.of_lift rfl) ?_
            simp only
            refine M.of_bind (r2 := []) (rdl_of hb hl) ?_
            refine M.of_bind (r1 := []) (M.of_guard (by rw [hw, hvt]; exact h1)) ?_
            have hkey : keyAt b.elems i.toNat = some key := hkey
            simp only [hkey]
            rfl
          · exact e.elim
        · exact e.elim
      · exact e.elim
    · exact e.elim
  case call c =>
    obtain ⟨callee, args, argTypes⟩ := c
    cases callee with
    | builtin b =>
      simp only [vcOp] at e
      split at e
      · rename_i vs hvs
        have fin : ∀ {q}, builtinV P site b argTypes.toList vs h = some q → evOp P cfg call site ts ⟨dst, .call ⟨.builtin b, args, argTypes⟩, type, pos, after, guard⟩ h = some q := by
          intro q hq
          simp only [evOp, hvs]
          exact M.of_bind (r1 := []) (M.of_lift rfl) hq
        split at e
        · rename_i t tl x hts
          split at e
          · rename_i s hu
            refine ⟨_, _, _, fin ?_, e⟩
            simp only [hts, builtinV, lenV, hu]
            exact opt_of rfl
          · rename_i el xs hu
            refine ⟨_, _, _, fin ?_, e⟩
            simp only [hts, builtinV, lenV, hu]
            exact opt_of rfl
          · exact vcDflt_run (fun c hc => by cases hc; exact ⟨_, rfl⟩) e
        · rename_i t t' s x hts
          split at e
          · rename_i el hu
            split at e
            · rename_i n z zero hn hz hzero
              simp only [Bool.cond_eq_ite] at e
              split at e
              · rename_i hg
                obtain ⟨v, u, r, hv, e⟩ := vcAppend_run e
                refine ⟨_, _, _, fin ?_, e⟩
                simp only [hts, builtinV, hu]
                refine M.of_bind (r1 := []) (M.of_lift hn) ?_
                refine M.of_bind (r1 := []) (M.of_lift hz) ?_
                refine M.of_bind (r1 := []) (M.of_lift hzero) ?_
                exact M.of_bind (r1 := []) (M.of_guard hg) hv
              · exact e.elim
            · exact e.elim
          · exact e.elim
        · rename_i t t' d x hts
          split at e
          · rename_i el hu
            split at e
            · rename_i z hz
              simp only [Bool.cond_eq_ite] at e
              split at e
              · rename_i hg
                obtain ⟨v, u, r, hv, e⟩ := vcCopy_run e
                refine ⟨_, _, _, fin ?_, e⟩
                simp only [hts, builtinV, hu]
                refine M.of_bind (r1 := []) (M.of_lift hz) ?_
                exact M.of_bind (r1 := []) (M.of_guard hg) hv
              · exact e.elim
            · exact e.elim
          · exact e.elim
        · rename_i t x hts
          split at e
          · rename_i el a off len cm hu
            split at e
            · rename_i b n z hb hn hz
              simp only [Bool.cond_eq_ite] at e
              split at e
              · rename_i hg
                simp only [Bool.and_eq_true] at hg
                obtain ⟨h1, e⟩ := need_iff.1 e
                refine ⟨_, _, _, fin ?_, e⟩
                simp only [hts, builtinV, hu]
                refine M.of_bind (r2 := []) (rdl_of hb hg.1.1.1.1) ?_
                refine M.of_bind (r1 := []) (M.of_lift hn) ?_
                simp only [hz]
                have h1 : headOk n b.elems = true := h1
                refine M.of_bind (r1 := []) (M.of_guard ?_) rfl
                rw [h1]
                simp only [Bool.and_eq_true]
                exact ⟨⟨⟨⟨hg.1.1.1.2, trivial⟩, hg.1.1.2⟩, hg.1.2⟩, hg.2⟩
              · exact e.elim
            · exact e.elim
          · exact vcDflt_run (fun c hc => by cases hc; exact ⟨_, rfl⟩) e
        · split at e
          · rename_i v hv
            refine ⟨_, _, _, fin ?_, e⟩
            rw [minVI_eq] at hv
            simp only [builtinV]
            exact opt_of hv
          · exact e.elim
        · split at e
          · rename_i v hv
            refine ⟨_, _, _, fin ?_, e⟩
            rw [maxVI_eq] at hv
            simp only [builtinV]
            exact opt_of hv
          · exact e.elim
        · exact vcDflt_run (fun c hc => by cases hc; exact ⟨_, rfl⟩) e
      · exact e.elim
    | value f =>
      simp only [vcOp] at e
      split at e
      · rename_i vs fid a c hvs hf
        simp only [Bool.cond_eq_ite] at e
        split at e
        · rename_i hb
          obtain ⟨v, u, r, hv, e⟩ := vcCall_run hct e
          refine ⟨_, _, _, ?_, e⟩
          simp only [evOp, hvs, hf]
          refine M.of_bind (r1 := []) (M.of_lift rfl) ?_
          exact M.of_bind (r1 := []) (M.of_guard hb) hv
        · exact e.elim
      · exact e.elim
    | invoke r m =>
      exfalso
      simp only [vcOp, vcDflt, evOp] at e
      exact e
  all_goals
    simp only [vcOp] at e
    exact vcDflt_run (fun c hc => by cases hc) e
end Go.Proofs.YthhpdnlfhofanaaGreatDoor
namespace Go.Proofs.YthhpdnlfhofanaaGreatDoor
open Go.RowKit
set_option linter.unusedVariables false
set_option linter.unusedSimpArgs false
theorem setT_same {d : Nat} {v : V} : ∀ {ts : Tmps}, tget ts d = some v → setT d v ts = ts
  | [], e => rfl
  | (j, x) :: t, e => by
    simp only [tget] at e
    simp only [setT]
    cases hb : Nat.beq j d with
    | true => simp only [hb, cond_true, Option.some.injEq] at e ⊢; rw [e]
    | false => simp only [hb, cond_false] at e ⊢; rw [setT_same e]
variable {P : Program} {cfg : Cfg} {call : CallF} {ct : Ct}
theorem vcGo_run (hct : CtOk call ct) {id i : Nat} {ops : List Oper} {o : Oper} {h : Heap} {K : St → Foot → Prop} {want : Bool} {ts : Tmps} (hw : wantedV ops ts o = some want) (e : vcGo P cfg ct id ops i o h K want ts) :
    ∃ st' f, evIx P cfg call id ops i o ⟨ts, h⟩ = some (st', f) ∧ K st' f := by
  unfold vcGo at e
  cases want with
  | true =>
    simp only [cond_true] at e
    obtain ⟨v, u, r, hv, e⟩ := vcOp_run hct e
    refine ⟨_, _, ?_, e⟩
    simp only [evIx, hw, hv]
  | false =>
    simp only [cond_false] at e
    refine ⟨_, _, ?_, e⟩
    simp only [evIx, hw]
theorem vcIx_run (hct : CtOk call ct) {id i : Nat} {ops : List Oper} {o : Oper} {st : St} {K : St → Foot → Prop} (e : vcIx P cfg ct id ops i o st K) :
    ∃ st' f, evIx P cfg call id ops i o st = some (st', f) ∧ K st' f := by
  unfold vcIx at e
  split at e
  · rename_i hg
    exact vcGo_run hct (by simp [wantedV, hg]) e
  · rename_i j want hg
    split at e
    · rename_i d hd
      split at e
      · rename_i b hb
        obtain ⟨e1, e2⟩ := br_iff.1 e
        cases b with
        | true =>
          have e := e1 rfl
          rw [setT_same hb] at e
          exact vcGo_run hct (by simp only [wantedV, hg, hd, hb]) e
        | false =>
          have e := e2 rfl
          rw [setT_same hb] at e
          exact vcGo_run hct (by simp only [wantedV, hg, hd, hb]) e
      · rename_i hb
        exact vcGo_run hct (by simp only [wantedV, hg, hd, hb]) e
      · exact e.elim
    · exact e.elim
theorem vcOps_run (hct : CtOk call ct) {id : Nat} {ops : List Oper} : ∀ {rest : List Oper} {i : Nat} {st : St} {K : St → List Foot → Prop}, vcOps P cfg ct id ops i rest st K →
    ∃ st' fs, evOps P cfg call id ops i rest st = some (st', fs) ∧ K st' fs
  | [], i, st, K, e => ⟨st, [], rfl, e⟩
  | o :: rest, i, st, K, e => by
    simp only [vcOps] at e
    obtain ⟨st1, f, h1, e⟩ := vcIx_run hct e
    obtain ⟨st2, fs, h2, e⟩ := vcOps_run hct e
    exact ⟨st2, f :: fs, by simp only [evOps, h1, h2], e⟩
theorem loopN_rule {norm : St → Option St} {body : St → Option (Ex × St)} {I : Nat → St → Prop} {K : Ex → St → Prop}
    (hb : ∀ n st, I n st → ∃ ex st', body st = some (ex, st') ∧ ((ex = .normal ∧ ∃ st2 n', norm st' = some st2 ∧ n' < n ∧ I n' st2) ∨ (ex ≠ .normal ∧ K ex st'))) :
    ∀ (fuel n : Nat) {st0 st : St}, n < fuel → norm st0 = some st → I n st → ∃ ex st', loopN norm body fuel st0 = some (ex, st') ∧ K ex st'
  | 0, n, st0, st, h, _, _ => absurd h (Nat.not_lt_zero _)
  | fuel + 1, n, st0, st, h, hn, hi => by
    obtain ⟨ex, st', h1, h2⟩ := hb n st hi
    simp only [loopN, hn, h1]
    rcases h2 with ⟨rfl, st2, n', h3, h4, h5⟩ | ⟨h3, h4⟩
    · exact loopN_rule hb fuel n' (by omega) h3 h5
    · cases ex with
      | normal => exact absurd rfl h3
      | exit i => exact ⟨_, _, rfl, h4⟩
      | ret => exact ⟨_, _, rfl, h4⟩
theorem vcUnr_run {norm : St → Option St} {body : St → Option (Ex × St)} {vb : St → (Ex → St → Prop) → Prop} (hb : ∀ st K, vb st K → ∃ ex st', body st = some (ex, st') ∧ K ex st') :
    ∀ (n fuel : Nat) {st : St} {K : Ex → St → Prop}, n ≤ fuel → vcUnr vb norm n st K → ∃ ex st', loopN norm body fuel st = some (ex, st') ∧ K ex st'
  | 0, fuel, st, K, _, e => e.elim
  | n + 1, 0, st, K, h, _ => absurd h (by omega)
  | n + 1, fuel + 1, st, K, h, e => by
    simp only [vcUnr] at e
    split at e
    · rename_i st1 hn
      obtain ⟨ex, st', h1, h2⟩ := hb _ _ e
      simp only [loopN, hn, h1]
      cases ex with
      | normal => exact vcUnr_run hb n fuel (by omega) h2
      | exit i => exact ⟨_, _, rfl, h2⟩
      | ret => exact ⟨_, _, rfl, h2⟩
    · exact e.elim
theorem vcCode_run (hct : CtOk call ct) {p : Nat} {keep : Nat → Option (List Nat)} {lp : Lp} : ∀ (c : Code), ∀ {st : St} {K : Ex → St → Prop}, vcCode P cfg ct lp p keep c st K →
    ∃ ex st', evCode P cfg call p keep c st = some (ex, st') ∧ K ex st'
  | .skip, st, K, e => ⟨_, _, rfl, e⟩
  | .label l, st, K, e => ⟨_, _, rfl, e⟩
  | .region id ops draw, st, K, e => by
    simp only [vcCode] at e
    obtain ⟨st', fs, h1, e⟩ := vcOps_run hct e
    simp only [Bool.cond_eq_ite] at e
    split at e
    · rename_i hg
      refine ⟨_, _, ?_, e⟩
      simp only [evCode, h1]
      rw [hg]
      rfl
    · exact e.elim
  | .seq a b, st, K, e => by
    simp only [vcCode] at e
    obtain ⟨ex, st', h1, e⟩ := vcCode_run hct a e
    cases ex with
    | normal =>
      obtain ⟨ex, st2, h2, e⟩ := vcCode_run hct b e
      exact ⟨_, _, by simp only [evCode, h1, h2], e⟩
    | exit i => exact ⟨_, _, by simp only [evCode, h1], e⟩
    | ret => exact ⟨_, _, by simp only [evCode, h1], e⟩
  | .cond c x y, st, K, e => by
    simp only [vcCode] at e
    split at e
    · rename_i t ht
      have fin : (t = true → vcCode P cfg ct lp p keep x st K) → (t = false → vcCode P cfg ct lp p keep y st K) → ∃ ex st', evCode P cfg call p keep (.cond c x y) st = some (ex, st') ∧ K ex st' := by
        intro e1 e2
        cases t with
        | true =>
          obtain ⟨ex, st', h1, e⟩ := vcCode_run hct x (e1 rfl)
          exact ⟨_, _, by simp only [evCode, ht, cond_true]; exact h1, e⟩
        | false =>
          obtain ⟨ex, st', h1, e⟩ := vcCode_run hct y (e2 rfl)
          exact ⟨_, _, by simp only [evCode, ht, cond_false]; exact h1, e⟩
      split at e
      · rename_i d
        obtain ⟨e1, e2⟩ := br_iff.1 e
        have ht' : tget st.tmps d = some (.bool t) := ht
        refine fin (fun h => ?_) (fun h => ?_)
        · subst h
          have := e1 rfl
          rwa [setT_same ht'] at this
        · subst h
          have := e2 rfl
          rwa [setT_same ht'] at this
      · obtain ⟨e1, e2⟩ := br_iff.1 e
        exact fin e1 e2
    · exact e.elim
  | .block id b, st, K, e => by
    simp only [vcCode] at e
    obtain ⟨ex, st', h1, e⟩ := vcCode_run hct b e
    cases ex with
    | normal => exact ⟨_, _, by simp only [evCode, h1], e⟩
    | exit i =>
      simp only at e
      cases hb : Nat.beq i id with
      | true => simp only [hb, cond_true] at e; exact ⟨_, _, by simp only [evCode, h1, hb, cond_true], e⟩
      | false => simp only [hb, cond_false] at e; exact ⟨_, _, by simp only [evCode, h1, hb, cond_false], e⟩
    | ret => exact ⟨_, _, by simp only [evCode, h1], e⟩
  | .loop b, st, K, e => by
    simp only [vcCode] at e
    split at e
    · rename_i L hL
      simp only [Bool.cond_eq_ite] at e
      split at e
      · refine vcUnr_run (fun st K e => vcCode_run hct b e) _ loopFuel ?_ e
        split
        · rename_i h; have h := Nat.le_of_ble_eq_true h; unfold loopFuel; omega
        · exact Nat.zero_le _
      split at e
      · rename_i st0 h0
        split at e
        · rename_i c x0 hu
          obtain ⟨⟨m, hm, hi⟩, hall⟩ := e
          have hs0 := L.ok _ _ _ hu
          refine loopN_rule (I := fun n st => ∃ x, st = L.st c x ∧ L.inv c x0 x n) ?_ loopFuel m hm h0 ⟨x0, hs0.symm, hi⟩
          rintro n st1 ⟨x, rfl, hx⟩
          obtain ⟨ex, st', h1, h2⟩ := vcCode_run hct b (hall x n hx)
          refine ⟨ex, st', h1, ?_⟩
          cases ex with
          | normal =>
            simp only [roundL] at h2
            split at h2
            · rename_i st2 hn2
              split at h2
              · rename_i c' x' hu2
                obtain ⟨rfl, m', hlt, hi'⟩ := h2
                exact .inl ⟨rfl, st2, m', hn2, hlt, x', (L.ok _ _ _ hu2).symm, hi'⟩
              · exact h2.elim
            · exact h2.elim
          | exit i => exact .inr ⟨(fun h => by cases h), h2⟩
          | ret => exact .inr ⟨(fun h => by cases h), h2⟩
        · exact e.elim
      · exact e.elim
    · exact e.elim
  | .exit id, st, K, e => ⟨_, _, rfl, e⟩
  | .ret, st, K, e => ⟨_, _, rfl, e⟩
  | .rangeFunc .., st, K, e => by simp [vcCode] at e
  | .scope b, st, K, e => by simp [vcCode] at e
  | .goto l, st, K, e => by simp [vcCode] at e
  | .refuse y, st, K, e => by simp [vcCode] at e
theorem vcF_run {n : Nat} (hct : CtOk (evalF P cfg n) ct) {lp : Lp} {f : FuncId} {vs : List V} {bs : List Bk} {K : V → List Bk → Prop} (e : vcF P cfg ct lp f vs bs K) :
    ∃ r out, evalF P cfg (n + 1) f vs bs = some (r, out) ∧ K r out := by
  unfold vcF at e
  split at e
  · exact e.elim
  · rename_i fn hf
    split at e
    · exact e.elim
    · rename_i c hb
      simp only [Bool.cond_eq_ite] at e
      split at e
      · rename_i hle
        obtain ⟨ex, st', h1, e⟩ := vcCode_run hct c e
        have fin : (match finish P cfg f fn bs.length st' with
          | some (r, out) => K r out
          | none => False) → (ex = .normal ∨ ex = .ret) → ∃ r out, evalF P cfg (n + 1) f vs bs = some (r, out) ∧ K r out := by
          intro e hex
          split at e
          · rename_i r out hfin
            refine ⟨r, out, ?_, e⟩
            simp only [evalF, hf, hb, evBody]
            rw [hle]
            simp only [cond_true, h1]
            rcases hex with rfl | rfl <;> exact hfin
          · exact e.elim
        cases ex with
        | exit i => exact e.elim
        | normal => exact fin e (.inl rfl)
        | ret => exact fin e (.inr rfl)
      · exact e.elim
end Go.Proofs.YthhpdnlfhofanaaGreatDoor
namespace Go.Proofs.YthhpdnlfhofanaaGreatDoor
open Go.RowKit
abbrev Con := List V → List Bk → (V → List Bk → Prop) → Prop
def ctOf : List (Nat × Con) → Ct
  | [], _ => none
  | (f, g) :: t, i => bif Nat.beq f i then some g else ctOf t i
def ConOk (call : CallF) (f : Nat) (g : Con) : Prop := ∀ vs bs K, g vs bs K → ∃ r out, call f vs bs = some (r, out) ∧ K r out
theorem ctOf_ok {call : CallF} : ∀ {l : List (Nat × Con)}, (∀ p ∈ l, ConOk call p.1 p.2) → CtOk call (ctOf l)
  | [], _, f, g, e => by cases e
  | (f, g) :: t, h, i, g', e => by
    simp only [ctOf] at e
    cases hb : Nat.beq f i with
    | true =>
      rw [hb] at e
      have hfi := Nat.eq_of_beq_eq_true hb
      subst hfi
      injection e with e
      subst e
      exact h (f, g) (List.mem_cons_self ..)
    | false =>
      rw [hb] at e
      exact ctOf_ok (l := t) (fun p hp => h p (List.mem_cons_of_mem _ hp)) i g' e
theorem ctOf_nil (call : CallF) : ∀ p ∈ ([] : List (Nat × Con)), ConOk call p.1 p.2 := fun _ h => by cases h
theorem ctOf_cons {call : CallF} {f : Nat} {g : Con} {l : List (Nat × Con)} (h : ConOk call f g) (ht : ∀ p ∈ l, ConOk call p.1 p.2) : ∀ p ∈ (f, g) :: l, ConOk call p.1 p.2 := fun p hp => by
  rcases List.mem_cons.1 hp with rfl | hp
  · exact h
  · exact ht p hp
def lpOf : List (Nat × LoopS) → Lp
  | [], _ => none
  | (f, g) :: t, i => bif Nat.beq f i then some g else lpOf t i
theorem run_of {P : Program} {cfg : Cfg} {ct : Ct} {lp : Lp} {f : FuncId} {n : Nat} (h : 1 ≤ n) (hct : ∀ k, k + 1 = n → CtOk (evalF P cfg k) ct) {vs : List V} {bs : List Bk} {K : V → List Bk → Prop} (e : vcF P cfg ct lp f vs bs K) :
    ∃ r out, evalF P cfg n f vs bs = some (r, out) ∧ K r out := by
  obtain ⟨k, rfl⟩ : ∃ k, n = k + 1 := ⟨n - 1, by omega⟩
  exact vcF_run (hct k rfl) e
theorem noCt_ok (call : CallF) : CtOk call (ctOf []) := ctOf_ok (ctOf_nil _)
/-- A callee by its own condition. -/
noncomputable def inlC (P : Program) (cfg : Cfg) (ct : Ct) (f : FuncId) : Con := fun vs bs K => vcF P cfg ct (lpOf []) f vs bs K
theorem inl_ok {P : Program} {cfg : Cfg} {ct : Ct} {f : FuncId} {n : Nat} (h : 1 ≤ n) (hct : ∀ k, k + 1 = n → CtOk (evalF P cfg k) ct) : ConOk (evalF P cfg n) f (inlC P cfg ct f) := fun _ _ _ e => run_of h hct e
/-- The same, with what is known of its loops. -/
noncomputable def inlL (P : Program) (cfg : Cfg) (ct : Ct) (lp : Lp) (f : FuncId) : Con := fun vs bs K => vcF P cfg ct lp f vs bs K
theorem inlL_ok {P : Program} {cfg : Cfg} {ct : Ct} {lp : Lp} {f : FuncId} {n : Nat} (h : 1 ≤ n) (hct : ∀ k, k + 1 = n → CtOk (evalF P cfg k) ct) : ConOk (evalF P cfg n) f (inlL P cfg ct lp f) := fun _ _ _ e => run_of h hct e
/-- A loop that is gone through n times at most. -/
def unrL (n : Nat) : LoopS where
  C := Unit
  X := Unit
  st := fun _ _ => ⟨[], []⟩
  un := fun _ => none
  ok := fun s c x h => by cases h
  inv := fun _ _ _ _ => True
  unr := n
/-- A call's one result. -/
def EvAt (P : Program) (cfg : Cfg) (d f : Nat) (vs : List V) (bs : List Bk) (r : V) (out : List Bk) : Prop := ∀ n, d ≤ n → evalF P cfg n f vs bs = some (r, out)
/-- A loop whose head is only looked at. -/
def headL (H : St → Prop) : LoopS where
  C := St
  X := Unit
  st := fun c _ => c
  un := fun s => some (s, ())
  ok := fun s c x h => by cases h; rfl
  inv := fun c _ _ _ => H c
end Go.Proofs.YthhpdnlfhofanaaGreatDoor
namespace Go.Proofs.YthhpdnlfhofanaaGreatDoor
open Go.RowKit
theorem wrap64 {x : Int} (h1 : -9223372036854775808 ≤ x) (h2 : x ≤ 9223372036854775807) : IntKind.i64.wrap x = x := by
  simp [IntKind.wrap, IntKind.bits, IntKind.signed]
  omega
theorem wrapU64 {x : Int} (h1 : 0 ≤ x) (h2 : x < 18446744073709551616) : IntKind.u64.wrap x = x := by
  simp [IntKind.wrap, IntKind.bits, IntKind.signed]
  omega
theorem wrapU8 {x : Int} (h1 : 0 ≤ x) (h2 : x < 256) : IntKind.u8.wrap x = x := by
  simp [IntKind.wrap, IntKind.bits, IntKind.signed]
  omega
theorem addI_i64 {a b : Int} (h1 : -9223372036854775808 ≤ a + b) (h2 : a + b ≤ 9223372036854775807) : addI .i64 a b = a + b := wrap64 h1 h2
theorem subI_i64 {a b : Int} (h1 : -9223372036854775808 ≤ a - b) (h2 : a - b ≤ 9223372036854775807) : subI .i64 a b = a - b := wrap64 h1 h2
theorem mulI_i64 {a b : Int} (h1 : -9223372036854775808 ≤ a * b) (h2 : a * b ≤ 9223372036854775807) : mulI .i64 a b = a * b := wrap64 h1 h2
theorem shrI_nat (k : IntKind) (w s : Nat) (h : s ≤ k.bits) : shrI k (w : Int) (s : Int) = ((w / 2 ^ s : Nat) : Int) := by
  unfold shrI
  rw [show min (s : Int).toNat k.bits = s by simp; omega]
  have e : ((2 : Int) ^ s) = ((2 ^ s : Nat) : Int) := by simp
  rw [e, Int.fdiv_eq_ediv_of_nonneg _ (Int.natCast_nonneg _)]
  rfl
theorem andI_mask {w s : Nat} (h : w < 18446744073709551616) (hs : s ≤ 64) : andI .u64 (w : Int) ((2 ^ s - 1 : Nat) : Int) = ((w % 2 ^ s : Nat) : Int) := by
  have h2 : 2 ^ s ≤ 2 ^ 64 := Nat.pow_le_pow_right (by omega) hs
  have h3 : 0 < 2 ^ s := Nat.pow_pos (by omega)
  unfold andI
  have e1 : (BitVec.ofInt IntKind.u64.bits (w : Int)).toNat = w := by simp [IntKind.bits]; omega
  have e2 : (BitVec.ofInt IntKind.u64.bits ((2 ^ s - 1 : Nat) : Int)).toNat = 2 ^ s - 1 := by simp only [IntKind.bits, BitVec.ofInt_natCast, BitVec.toNat_ofNat]; omega
  rw [BitVec.toNat_and, e1, e2, Nat.and_two_pow_sub_one_eq_mod]
  have := Nat.mod_lt w h3
  exact wrapU64 (by omega) (by omega)
-- rows of one cell
theorem leI_t {a b : Int} : (leI a b = true) = (a ≤ b) := by simp [leI]
theorem leI_f {a b : Int} : (leI a b = false) = (b < a) := by simp [leI]
theorem ltI_t {a b : Int} : (ltI a b = true) = (a < b) := by simp [ltI]
theorem ltI_f {a b : Int} : (ltI a b = false) = (b ≤ a) := by simp [ltI]
theorem eqI_t {a b : Int} : (eqI a b = true) = (a = b) := by simp [eqI]
theorem eqI_f {a b : Int} : (eqI a b = false) = (a ≠ b) := by simp [eqI]
theorem leN_t {a b : Nat} : (leN a b = true) = (a ≤ b) := by simp [leN]
theorem leN_f {a b : Nat} : (leN a b = false) = (b < a) := by simp [leN]
theorem eqN_t {a b : Nat} : (eqN a b = true) = (a = b) := by simp [eqN]
theorem eqN_f {a b : Nat} : (eqN a b = false) = (a ≠ b) := by simp [eqN]
theorem eqS_t {a b : List UInt8} : (eqS a b = true) = (a = b) := by simp [eqS, strEq]
theorem eqS_f {a b : List UInt8} : (eqS a b = false) = (a ≠ b) := by simp [eqS, strEq]
theorem notB_t {a : Bool} : (notB a = true) = (a = false) := by simp [notB]
theorem notB_f {a : Bool} : (notB a = false) = (a = true) := by simp [notB]
theorem andB_t {a b : Bool} : (andB a b = true) = (a = true ∧ b = true) := by simp [andB]
theorem andB_f {a b : Bool} : (andB a b = false) = (a = false ∨ b = false) := by cases a <;> cases b <;> simp [andB]
theorem orB_t {a b : Bool} : (orB a b = true) = (a = true ∨ b = true) := by simp [orB]
theorem orB_f {a b : Bool} : (orB a b = false) = (a = false ∧ b = false) := by simp [orB]
theorem eqB_t {a b : Bool} : (eqB a b = true) = (a = b) := by simp [eqB]
theorem eqB_f {a b : Bool} : (eqB a b = false) = (a ≠ b) := by simp [eqB]
theorem okRow1 {xs : List (List V)} {j : Nat} (h : ∀ c ∈ xs, c.length = 1) (hj : j < xs.length) : okRow xs j 1 = true := by
  simp [okRow, hj, h _ (List.getElem_mem hj)]
/-- An append to a row that is full. -/
theorem app_br {A B : Prop} {len cm bytes : Nat} {es : List (List V)} (h1 : cm = len) (h2 : es.length = len) (h3 : (len + 1) * bytes ≤ 140737488355328) (hB : B) : br (leN (len + 1) cm) A (need (eqN (0 + len) es.length) (need (leN ((len + 1) * bytes) 140737488355328) B)) := by
  simp only [br_iff, need_iff, leN_t, leN_f, eqN_t]
  exact ⟨fun h => by omega, fun _ => ⟨by omega, h3, hB⟩⟩
/-- Texts as rows. -/
def rowsS (l : List (List UInt8)) : List (List V) := l.map fun s => [.str s]
theorem rowsS_len (l : List (List UInt8)) : (rowsS l).length = l.length := by simp [rowsS]
theorem rowsS_one (l : List (List UInt8)) : ∀ c ∈ rowsS l, c.length = 1 := fun c hc => by
  obtain ⟨s, _, rfl⟩ := List.mem_map.1 hc
  rfl
theorem rowsS_app (a b : List (List UInt8)) : rowsS (a ++ b) = rowsS a ++ rowsS b := List.map_append
theorem rowsS_at {a : List (List UInt8)} {i : Nat} (h : i < a.length) : sub (rowAt (rowsS a) (i : Int)) 0 1 = some [V.str (a[i]'h)] := by
  simp [rowAt, rowsS, List.getD, h, sub]
theorem rowsS_ok {a : List (List UInt8)} {i : Nat} (h : i < a.length) : okRow (rowsS a) i 1 = true := okRow1 (rowsS_one a) (by rw [rowsS_len]; exact h)
theorem atS_at {s : List UInt8} {i : Nat} (h : i < s.length) : atS s (i : Int) = ((s[i]).toNat : Int) := by
  unfold atS
  simp [h]
theorem cutS_nat (s : List UInt8) (a b : Nat) : cutS s (a : Int) (b : Int) = (s.drop a).take (b - a) := rfl
theorem cutS_succ {s : List UInt8} {a b : Nat} (h1 : a ≤ b) (h2 : b < s.length) : cutS s (a : Int) ((b + 1 : Nat) : Int) = cutS s (a : Int) (b : Int) ++ [s[b]] := by
  rw [cutS_nat, cutS_nat, show b + 1 - a = (b - a) + 1 by omega, List.take_succ_eq_append_getElem (by simp; omega)]
  congr 2
  simp [show a + (b - a) = b by omega]
theorem putAt1 {xs : List (List V)} {j : Nat} (v : V) (h : ∀ c ∈ xs, c.length = 1) (hj : j < xs.length) : putAt xs j 0 [v] = some (xs.set j [v]) := by
  have := h _ (List.getElem_mem hj)
  obtain ⟨a, ha⟩ := List.length_eq_one_iff.1 this
  simp only [putAt, List.getElem?_eq_getElem hj, put, ha]
  rfl
theorem set_one {xs : List (List V)} {j : Nat} {v : V} (h : ∀ c ∈ xs, c.length = 1) : ∀ c ∈ xs.set j [v], c.length = 1 := by
  intro c hc
  rcases List.mem_or_eq_of_mem_set hc with h' | rfl
  · exact h c h'
  · rfl
theorem drop_set {xs : List (List V)} {j : Nat} {v : List V} (hj : j < xs.length) : (xs.set j v).drop j = v :: xs.drop (j + 1) := by
  rw [List.drop_eq_getElem_cons (by simpa using hj)]
  simp [List.drop_set]
theorem headOkP1 {xs : List (List V)} (h : ∀ c ∈ xs, c.length = 1) : headOkP 1 xs = true := by
  cases xs with
  | nil => rfl
  | cons c t => simp [headOkP, headOk, h c (List.mem_cons_self ..)]
/-- A text's bytes, as rows. -/
def rowsB (s : List UInt8) : List (List V) := s.map fun c => [.int .u8 c.toNat]
theorem bytesV_rowsB : ∀ s, bytesV (rowsB s) = some s
  | [] => rfl
  | c :: t => by
    have := bytesV_rowsB t
    simp only [rowsB, List.map_cons, bytesV] at this ⊢
    rw [this]
    simp
theorem okBytes_rowsB (s : List UInt8) : okBytes (rowsB s) = true := by simp [okBytes, bytesV_rowsB]
theorem bytesOf_rowsB (s : List UInt8) : bytesOf (rowsB s) = s := by simp [bytesOf, bytesV_rowsB]
theorem rowsB_cons (c : UInt8) (s : List UInt8) : rowsB (c :: s) = [.int .u8 c.toNat] :: rowsB s := rfl
theorem rowsB_len (s : List UInt8) : (rowsB s).length = s.length := by simp [rowsB]
end Go.Proofs.YthhpdnlfhofanaaGreatDoor
