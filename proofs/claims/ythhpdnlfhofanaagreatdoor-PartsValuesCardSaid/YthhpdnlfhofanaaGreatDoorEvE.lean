/- Functions by their contracts, for the evaluator: what all have. -/
import Derived.Test.YthhpdnlfhofanaaGreatDoorEvB
import Derived.Test.YthhpdnlfhofanaaGreatDoorEvD
import Derived.Lib.LaidTab
import Derived.Test.YthhpdnlfhofanaaGreatDoorShelf
import Derived.Recover
import Derived.Tactics2
import Derived.Laws.Pointers
import Derived.Lib.Bytealg
import Derived.Lib.IndexMore
import Derived.Lib.AtoiAll
import Derived.Lib.Join
import Derived.Test.YthhpdnlfhofanaaGreatDoorEvC
import Derived.HandedShaped
import Derived.Shelf.Vars
import Derived.Stop.LaidErr
import Derived.MakeChecks
import Derived.Lay
import Derived.SizedLaws
import Derived.SevenTiedAt
import Derived.Below
import Derived.JoinedOf
import Derived.JoinedTies
import Derived.ChangeVars
import Derived.Test.YthhpdnlfhofanaaGreatDoorRows
import Derived.Laws.Externs
import Derived.Lib.Builder
import Derived.Lib.AppendStr
import Derived.Lib.UnsafeStr
namespace Go.Proofs.YthhpdnlfhofanaaGreatDoor
open Go.RowKit
set_option linter.unusedVariables false
section
variable {P : Program} {S : Nat → Prop} {w w' : World}
theorem quiet_inv (hS : ∀ b, S b → b < w.heap.size) (hb : Below w.heap.size w w') : Inv ⟨w, S, fun _ => False, fun _ => False, []⟩ S (fun _ => none) [] w' :=
  ⟨hb.os, hb.tape, hb.output, hb.size, fun b h1 _ => hb.block b h1, (fun _ _ h => by cases h), (fun s b hs => by simp [hget] at hs), (fun s s' b b' r r' _ hs => by simp [hget] at hs), (fun s b r hs => by simp [hget] at hs),
    fun b h => Nat.lt_of_lt_of_le (hS b h) hb.size, fun _ h => .inl h, fun _ h => h⟩
/-- A function by the evaluator, with other knobs. -/
theorem prim_of_eval (hm : P.follows .mixedOrders = true) (hnames : NamesOk P) (hdsts : DstsOk P) {cfg : Cfg} (hcfg : CfgOk P cfg) {f : FuncId} {g : List V → Option (Bool × V)} {n : Nat} (h : ∀ vs r, g vs = some (true, r) → evalF P cfg n f vs [] = some (r, [])) : PrimOk P cfg.glob f g := by
  intro vs r hg S w xs hS hx hgl hew
  refine (eval_calls hm hnames hdsts hcfg (h vs r hg) hS hx hgl hew).mono ?_
  rintro e w' ⟨S', m', x, rfl, hi, hv⟩
  have hm' : m' = fun _ => none := by
    funext s
    cases hq : m' s with
    | none => rfl
    | some r =>
      obtain ⟨b, hb⟩ := hi.dom s r hq
      simp [enumB, hget] at hb
  subst hm'
  exact ⟨S', x, rfl, hi, hv⟩
theorem PrimOk.or {gl : Gl} {f : FuncId} {g g' : List V → Option (Bool × V)} (h : PrimOk P gl f g) (h' : PrimOk P gl f g') {g2 : List V → Option (Bool × V)} (e : ∀ vs r, g2 vs = some (true, r) → g vs = some (true, r) ∨ g' vs = some (true, r)) : PrimOk P gl f g2 := by
  intro vs r hr S w xs hS hx hgl hew
  rcases e vs r hr with h1 | h1
  · exact h h1 hS hx hgl hew
  · exact h' h1 hS hx hgl hew
theorem noCfg_ok {cfg : Cfg} (h1 : ∀ f, cfg.prim f = none) (h2 : ∀ f, cfg.self f = false) (h3 : ∀ f, cfg.clone f = false) (h4 : ∀ f, cfg.bstr f = false) (h5 : ∀ f, cfg.dfr f = 0 := by intro _; rfl) : CfgOk P cfg :=
  ⟨fun f g e => (by rw [h1] at e; cases e), fun f e => (by rw [h2] at e; cases e), fun f e => (by rw [h3] at e; cases e), fun f e => (by rw [h4] at e; cases e), fun f n e => (by rw [h5] at e; cases e)⟩
theorem tab_is {gl : Gl} (hg : GlobR gl (fun _ => none) S w) (he : ExW gl w) {g : Nat} {k : IntKind} {zs : List Int} (e : gl g = some (zs.map (V.int k))) {name : String} (hn : P.globalNamed name = some g) : Lib.TabIs P w name k zs := by
  obtain ⟨arr, t, fr, h1, h2⟩ := he g _ e
  have h3 := hg g _ e
  unfold Lib.TabIs World.var?
  rw [hn]
  simp only [Option.bind_some, h1]
  congr 1
  apply Array.ext
  · simpa using h2
  · intro i hi1 hi2
    have hiz : i < zs.length := by simpa using hi2
    cases h3 with
    | rptr _ _ _ off u g1 g2 g3 g4 =>
      have e1 : (zs.map (V.int k))[i]? = some (.int k zs[i]) := by simp [hiz]
      have h5 := g2 i _ e1
      have h6 := g4 i _ e1
      simp only [World.cell?, h1] at h5
      generalize u i = q at h5 h6
      cases h6
      have h7 : arr[i]? = some (Value.int k zs[i]) := by
        generalize Value.int k zs[i] = q at h5 ⊢
        simpa using h5
      rw [Array.getElem?_eq_getElem hi1] at h7
      injection h7 with h7
      rw [h7]
      simp
end
def inI64 (n : Int) : Bool := decide (-9223372036854775808 ≤ n) && decide (n ≤ 9223372036854775807)
theorem mixedOk : Tryz.prog.follows .mixedOrders = true := by kernel_rfl
theorem namesOk : NamesOk Tryz.prog := names_ok (by kernel_rfl)
theorem dstsOk : DstsOk Tryz.prog := dsts_ok (by kernel_rfl)
end Go.Proofs.YthhpdnlfhofanaaGreatDoor
namespace Go.Proofs.YthhpdnlfhofanaaGreatDoor
open Go.RowKit
set_option linter.unusedVariables false
def MaxN : Type := Int
/-- The one number of the library's that nobody tells. -/
abbrev MaxL : Type := Inhabited MaxN
def MaxL.m [MaxL] : Int := (default : MaxN)
def glM [MaxL] : Gl := fun g => bif Nat.beq g 1 then some [.int .i64 MaxL.m] else bif Nat.beq g 6 then some [.ifc] else bif Nat.beq g 7 then some [.ifc] else glT g
theorem mx_cell [MaxL] {S : Nat → Prop} {w : World} (hgl : GlobR glM (fun _ => none) S w) : w.cell? ⟨1, 0, none⟩ = some (.int .i64 MaxL.m) := by
  have h3 := hgl 1 [.int .i64 MaxL.m] rfl
  cases h3 with
  | rptr _ _ _ off u g1 g2 g3 g4 =>
    have h5 := g2 0 _ rfl
    have h6 := g4 0 _ rfl
    generalize u 0 = q at h5 h6
    cases h6
    simpa using h5
theorem err_cell [MaxL] {S : Nat → Prop} {w : World} (hgl : GlobR glM (fun _ => none) S w) {g : Nat} (hg : glM g = some [.ifc]) : ∃ t x, w.cell? ⟨g, 0, none⟩ = some (.iface t x) := by
  have h3 := hgl g [.ifc] hg
  cases h3 with
  | rptr _ _ _ off u g1 g2 g3 g4 =>
    have h5 := g2 0 _ rfl
    have h6 := g4 0 _ rfl
    generalize u 0 = q at h5 h6
    cases h6 with
    | ifc t x => exact ⟨t, x, by simpa using h5⟩
def ixPrim : List V → Option (Bool × V)
  | [.str s, .int .u8 c] => some (true, .int .i64 (Lib.indexByte s c.toNat.toUInt8))
  | _ => none
theorem ix_prim (gl : Gl) : PrimOk Tryz.prog gl 171 ixPrim := by
  intro vs r h S w xs hS hx hgl hew
  unfold ixPrim at h
  split at h
  · rename_i s c
    simp only [Option.some.injEq, Prod.mk.injEq] at h
    obtain ⟨_, rfl⟩ := h
    obtain ⟨x0, xs0, rfl, g0, hx⟩ := hx.cons_inv
    obtain ⟨x1, xs1, rfl, g1, hx⟩ := hx.cons_inv
    obtain rfl := hx.nil_inv
    cases g0
    cases g1
    refine (Tryz.strings_IndexByte ⟨⟨s⟩⟩ c w).mono ?_
    rintro e w' ⟨rfl, rfl⟩
    exact ⟨S, _, rfl, quiet_inv hS (Below.refl _ _), .int _ _⟩
  · cases h
def ctPrim : List V → Option (Bool × V)
  | [.str s, .str t] => some (decide (s.length < 4294967281), .bool (Lib.contains s t))
  | _ => none
theorem ct_prim [MaxL] : PrimOk Tryz.prog glM 141 ctPrim := by
  intro vs r h S w xs hS hx hgl hew
  unfold ctPrim at h
  split at h
  · rename_i s t
    simp only [Option.some.injEq, Prod.mk.injEq, decide_eq_true_eq] at h
    obtain ⟨hs, rfl⟩ := h
    obtain ⟨x0, xs0, rfl, g0, hx⟩ := hx.cons_inv
    obtain ⟨x1, xs1, rfl, g1, hx⟩ := hx.cons_inv
    obtain rfl := hx.nil_inv
    cases g0
    cases g1
    refine (Tryz.strings_Contains ⟨⟨s⟩⟩ ⟨⟨t⟩⟩ MaxL.m w (by rw [Lib.size_eq]; exact hs) (mx_cell hgl)).mono ?_
    rintro e w' ⟨rfl, rfl⟩
    exact ⟨S, _, rfl, quiet_inv hS (Below.refl _ _), .bool _⟩
  · cases h
def cnPrim : List V → Option (Bool × V)
  | [.str s, .str [c]] => some (true, .int .i64 (Lib.countByte s c))
  | _ => none
theorem cn_prim (gl : Gl) : PrimOk Tryz.prog gl 244 cnPrim := by
  intro vs r h S w xs hS hx hgl hew
  unfold cnPrim at h
  split at h
  · rename_i s c
    simp only [Option.some.injEq, Prod.mk.injEq] at h
    obtain ⟨_, rfl⟩ := h
    obtain ⟨x0, xs0, rfl, g0, hx⟩ := hx.cons_inv
    obtain ⟨x1, xs1, rfl, g1, hx⟩ := hx.cons_inv
    obtain rfl := hx.nil_inv
    cases g0
    cases g1
    refine (Tryz.strings_Count_one ⟨⟨s⟩⟩ c w).mono ?_
    rintro e w' ⟨rfl, rfl⟩
    exact ⟨S, _, rfl, quiet_inv hS (Below.refl _ _), .int _ _⟩
  · cases h
/-- At a return the parser's deferred function finds nothing to recover. -/
theorem items_dfr : DeferOk Tryz.prog 175 3 := by
  intro xs w hn
  obtain ⟨l⟩ := xs
  have hl : l.length = 3 := by simpa using hn
  match l, hl with
  | [x, y, z], _ =>
    refine ⟨by simp [go_sem], ?_⟩
    refine (callsD_of_wpS (R := fun e u w' => (∃ v, e = .returned v) ∧ u = .returning ∧ w' = w) Tryz.func175 rfl fun c₀ cs hu => ?_)
    apply wpS_seq
    apply wpS_region
    simp [wpOpsS, go_sem, recoverD, hu, Tryz.ntmps175, Exit.thenS]
    apply wpS_seq
    apply wpS_region
    simp [wpOpsS, go_sem, Exit.thenS]
    refine wpS_cond (t := false) (by simp [Act.eval, Array.replicate]) ?_
    simp only [Bool.false_eq_true, if_false]
    refine wpS_of_wp (wp_skip ?_)
    cases c₀
    simp_all [bodyPostS, results, Tryz.results175]
end Go.Proofs.YthhpdnlfhofanaaGreatDoor
namespace Go.Proofs.YthhpdnlfhofanaaGreatDoor
open Go.RowKit
set_option linter.unusedVariables false
set_option maxRecDepth 100000
theorem pow_tab [MaxL] {S : Nat → Prop} {w : World} (hgl : GlobR glM (fun _ => none) S w) (hew : ExW glM w) : Lib.TabIs Tryz.prog w "internal/strconv.uint64pow10" .u64 Lib.pow10Tab :=
  tab_is (g := 0) (k := .u64) (zs := Lib.pow10Tab) hgl hew (by kernel_rfl) (by kernel_rfl)
theorem grow_below {w : World} {k : Nat} {os : Array Obj} : Below w.heap.size w (Sort.grow (w.drewN k) os) := by
  refine ⟨rfl, rfl, rfl, by simp [Sort.grow, World.drewN], fun b hb => ?_⟩
  simp only [Sort.grow, World.drewN]
  exact Array.getElem?_append_left hb
def iaPrim : List V → Option (Bool × V)
  | [.int .i64 n] => some (inI64 n, .str (textN 10 n))
  | _ => none
theorem ia_prim [MaxL] : PrimOk Tryz.prog glM 143 iaPrim := by
  intro vs r h S w xs hS hx hgl hew
  unfold iaPrim at h
  split at h
  · rename_i n
    simp only [Option.some.injEq, Prod.mk.injEq] at h
    obtain ⟨hg, rfl⟩ := h
    simp only [inI64, Bool.and_eq_true, decide_eq_true_eq] at hg
    obtain ⟨h1, h2⟩ := hg
    obtain ⟨x0, xs0, rfl, g0, hx⟩ := hx.cons_inv
    obtain rfl := hx.nil_inv
    cases g0
    refine (Tryz.strconv_Itoa n h1 h2 w (pow_tab hgl hew)).mono ?_
    rintro e w' ⟨rfl, k, os, rfl⟩
    rw [itoa_textN (by omega)]
    exact ⟨S, _, rfl, quiet_inv hS grow_below, .str _⟩
  · cases h
def ftPrim : List V → Option (Bool × V)
  | [.int .i64 n, .int .i64 b] => some (inI64 n && decide (b = 10), .str (textN 10 n))
  | _ => none
theorem ft_prim [MaxL] : PrimOk Tryz.prog glM 67 ftPrim := by
  intro vs r h S w xs hS hx hgl hew
  unfold ftPrim at h
  split at h
  · rename_i n b
    simp only [Option.some.injEq, Prod.mk.injEq] at h
    obtain ⟨hg, rfl⟩ := h
    simp only [inI64, Bool.and_eq_true, decide_eq_true_eq] at hg
    obtain ⟨⟨h1, h2⟩, rfl⟩ := hg
    obtain ⟨x0, xs0, rfl, g0, hx⟩ := hx.cons_inv
    obtain ⟨x1, xs1, rfl, g1, hx⟩ := hx.cons_inv
    obtain rfl := hx.nil_inv
    cases g0
    cases g1
    refine (Tryz.strconv_FormatInt_10 n h1 h2 w (pow_tab hgl hew)).mono ?_
    rintro e w' ⟨rfl, k, os, rfl⟩
    rw [itoa_textN (by omega)]
    exact ⟨S, _, rfl, quiet_inv hS grow_below, .str _⟩
  · cases h
def cutA (s t : List UInt8) : List UInt8 := (Lib.cut s t).1
def cutB (s t : List UInt8) : List UInt8 := (Lib.cut s t).2.1
def cutC (s t : List UInt8) : Bool := (Lib.cut s t).2.2
def tpF (s t : List UInt8) : List UInt8 := Lib.trimPrefix s t
def hpF (s t : List UInt8) : Bool := Lib.hasPrefix s t
def cutPrim : List V → Option (Bool × V)
  | [.str s, .str t] => some (decide (s.length < 4294967281), .tup [.str (cutA s t), .str (cutB s t), .bool (cutC s t)])
  | _ => none
theorem cut_prim [MaxL] : PrimOk Tryz.prog glM 69 cutPrim := by
  intro vs r h S w xs hS hx hgl hew
  unfold cutPrim at h
  split at h
  · rename_i s t
    simp only [Option.some.injEq, Prod.mk.injEq, decide_eq_true_eq] at h
    obtain ⟨hs, rfl⟩ := h
    obtain ⟨x0, xs0, rfl, g0, hx⟩ := hx.cons_inv
    obtain ⟨x1, xs1, rfl, g1, hx⟩ := hx.cons_inv
    obtain rfl := hx.nil_inv
    cases g0
    cases g1
    refine (Tryz.strings_Cut ⟨⟨s⟩⟩ ⟨⟨t⟩⟩ MaxL.m w (by rw [Lib.size_eq]; exact hs) (mx_cell hgl)).mono ?_
    rintro e w' ⟨rfl, n, rfl⟩
    refine ⟨S, _, rfl, quiet_inv hS ⟨rfl, rfl, rfl, by simp [World.drewN], fun b hb => rfl⟩, RV.tup' (.cons (.str _) (.cons (.str _) (.cons (.bool _) .nil)))⟩
  · cases h
def tpPrim : List V → Option (Bool × V)
  | [.str s, .str t] => some (true, .str (tpF s t))
  | _ => none
theorem tp_prim (gl : Gl) : PrimOk Tryz.prog gl 74 tpPrim := by
  intro vs r h S w xs hS hx hgl hew
  unfold tpPrim at h
  split at h
  · rename_i s t
    simp only [Option.some.injEq, Prod.mk.injEq] at h
    obtain ⟨_, rfl⟩ := h
    obtain ⟨x0, xs0, rfl, g0, hx⟩ := hx.cons_inv
    obtain ⟨x1, xs1, rfl, g1, hx⟩ := hx.cons_inv
    obtain rfl := hx.nil_inv
    cases g0
    cases g1
    refine (Tryz.strings_TrimPrefix ⟨⟨s⟩⟩ ⟨⟨t⟩⟩ w).mono ?_
    rintro e w' ⟨rfl, rfl⟩
    exact ⟨S, _, rfl, quiet_inv hS (Below.refl _ _), .str _⟩
  · cases h
def hpPrim : List V → Option (Bool × V)
  | [.str s, .str p] => some (true, .bool (hpF s p))
  | _ => none
theorem hp_prim (gl : Gl) : PrimOk Tryz.prog gl 71 hpPrim := by
  intro vs r h S w xs hS hx hgl hew
  unfold hpPrim at h
  split at h
  · rename_i s p
    simp only [Option.some.injEq, Prod.mk.injEq] at h
    obtain ⟨_, rfl⟩ := h
    obtain ⟨x0, xs0, rfl, g0, hx⟩ := hx.cons_inv
    obtain ⟨x1, xs1, rfl, g1, hx⟩ := hx.cons_inv
    obtain rfl := hx.nil_inv
    cases g0
    cases g1
    refine (Tryz.strings_HasPrefix ⟨⟨s⟩⟩ ⟨⟨p⟩⟩ w).mono ?_
    rintro e w' ⟨rfl, rfl⟩
    exact ⟨S, _, rfl, quiet_inv hS (Below.refl _ _), .bool _⟩
  · cases h
/-- The number of a text, as the shell's indices are read. -/
def numV (s : List UInt8) : Int := match Lib.atoiAll s with
  | .ok v => v
  | .syntax => 0
  | .range => Lib.atoiSat s
def numB (s : List UInt8) : Bool := match Lib.atoiAll s with
  | .ok v => decide (1 ≤ v) && decide (v ≤ 256) && decide (textN 10 v = s)
  | _ => false
def numPrim : List V → Option (Bool × V)
  | [.str s] => some (decide (s.length ≤ 100000), .tup [.int .i64 (numV s), .bool (numB s)])
  | _ => none
def strsOf : List (List V) → Option (List (List UInt8))
  | [] => some []
  | [.str s] :: t => (strsOf t).map (s :: ·)
  | _ => none
theorem strsOf_eq : ∀ {xs : List (List V)} {l : List (List UInt8)}, strsOf xs = some l → xs = l.map fun s => [V.str s]
  | [], l, h => by simp only [strsOf, Option.some.injEq] at h; subst h; rfl
  | x :: t, l, h => by
    unfold strsOf at h
    split at h
    · rename_i e; cases e
    · rename_i s t' e
      injection e with e1 e2
      subst e1 e2
      obtain ⟨l', h1, rfl⟩ := Option.map_eq_some_iff.1 h
      rw [strsOf_eq h1]; rfl
    · cases h
def joinOk (xs : List (List V)) (sep : List UInt8) : Bool := match strsOf xs with
  | some l => decide (l.length ≤ 100000) && decide ((Lib.join l sep).length ≤ 140737488355328)
  | none => false
def joinV (xs : List (List V)) (sep : List UInt8) : List UInt8 := match strsOf xs with
  | some l => Lib.join l sep
  | none => []
def joinPrim : List V → Option (Bool × V)
  | [.lst xs, .str sep] => some (joinOk xs sep, .str (joinV xs sep))
  | _ => none
theorem strsOf_map : ∀ l : List (List UInt8), strsOf (l.map fun s => [V.str s]) = some l
  | [] => rfl
  | s :: t => by simp only [List.map_cons, strsOf, strsOf_map t]; rfl
theorem join_prim (gl : Gl) : PrimOk Tryz.prog gl 72 joinPrim := by
  intro vs r h S w xs hS hx hgl hew
  unfold joinPrim at h
  split at h
  · rename_i rows sep
    simp only [Option.some.injEq, Prod.mk.injEq] at h
    obtain ⟨h, rfl⟩ := h
    unfold joinV
    unfold joinOk at h
    split at h
    · rename_i l hl
      simp only [Bool.and_eq_true, decide_eq_true_eq] at h
      obtain ⟨h1, h2⟩ := h
      obtain rfl := strsOf_eq hl
      obtain ⟨x0, xs0, rfl, g0, hx⟩ := hx.cons_inv
      obtain ⟨x1, xs1, rfl, g1, hx⟩ := hx.cons_inv
      obtain rfl := hx.nil_inv
      cases g1
      have hnil : l = [] → Lib.join l sep = [] := fun e => by subst e; rfl
      generalize hrows : (l.map fun s => [V.str s]) = rows at g0
      cases g0 with
      | lst0 a c =>
        have hl0 : l = [] := by simpa using hrows
        refine (Tryz.strings_Join_none a c ⟨⟨sep⟩⟩ w).mono ?_
        rintro e w' ⟨rfl, rfl⟩
        rw [hnil hl0]
        exact ⟨S, _, rfl, quiet_inv hS (Below.refl _ _), .str _⟩
      | lst _ b off z c u hb hc hz hcell ht hv =>
        have hlen : rows.length = l.length := by rw [← hrows]; simp
        have hmm : (l.map fun s => (⟨⟨s⟩⟩ : ByteArray)).map (·.data.toList) = l := by simp [Function.comp_def]
        have key := Tryz.strings_Join b off c (l.map fun s => ⟨⟨s⟩⟩) ⟨⟨sep⟩⟩ w (fun j x hj => by
          rw [List.getElem?_map] at hj
          obtain ⟨s, hs, rfl⟩ := Option.map_eq_some_iff.1 hj
          have hr : rows[j]? = some [V.str s] := by rw [← hrows]; simp [hs]
          have hz1 : 1 = z := hz j _ hr
          have e1 := hcell j _ 0 _ hr rfl
          have e2 := hv j _ 0 _ hr rfl
          generalize u j 0 = q at e1 e2
          cases e2
          rw [← hz1] at e1
          simpa using e1) (hS b hb) (by simp; omega) (by simp; omega) (by rw [hmm]; exact h2)
        rw [hmm, List.length_map] at key
        rw [hlen]
        refine key.mono ?_
        rintro e w' ⟨rfl, hbl⟩
        exact ⟨S, _, rfl, quiet_inv hS hbl, .str _⟩
    · cases h
  · cases h
theorem tab_below {w w' : World} {n : String} {k : IntKind} {zs : List Int} (h : Lib.TabIs Tryz.prog w n k zs) (hb : Below w.heap.size w w') : Lib.TabIs Tryz.prog w' n k zs := by
  unfold Lib.TabIs World.var? at *
  cases hg : Tryz.prog.globalNamed n with
  | none => rw [hg] at h; cases h
  | some g =>
    rw [hg] at h
    simp only [Option.bind_some] at *
    have hlt : g < w.heap.size := by
      rcases Nat.lt_or_ge g w.heap.size with h' | h'
      · exact h'
      · rw [Array.getElem?_eq_none h'] at h; cases h
    rw [hb.block g hlt]
    exact h
theorem num_prim [MaxL] : PrimOk Tryz.prog glM 151 numPrim := by
  intro vs r h S w xs hS hx hgl hew
  unfold numPrim at h
  split at h
  · rename_i s
    simp only [Option.some.injEq, Prod.mk.injEq, decide_eq_true_eq] at h
    obtain ⟨hs, rfl⟩ := h
    obtain ⟨x0, xs0, rfl, g0, hx⟩ := hx.cons_inv
    obtain rfl := hx.nil_inv
    cases g0
    have htab := pow_tab hgl hew
    have hsz : (⟨⟨s⟩⟩ : ByteArray).size ≤ 281474976710656 := by rw [Lib.size_eq]; show s.length ≤ _; omega
    obtain ⟨t6, x6, e6⟩ := err_cell (g := 6) hgl rfl
    obtain ⟨t7, x7, e7⟩ := err_cell (g := 7) hgl rfl
    have fin : ∀ (n : Int) (b : Bool) (w' : World), Below w.heap.size w w' → ∃ S' x, Ending.returned (.tuple #[.int .i64 n, .bool b]) = .returned x ∧ Inv ⟨w, S, fun _ => False, fun _ => False, []⟩ S' (fun _ => none) [] w' ∧ RV (fun _ => none) S' w' (V.tup [.int .i64 n, .bool b]) x :=
      fun n b w' hb => ⟨S, _, rfl, quiet_inv hS hb, RV.tup' (.cons (.int _ _) (.cons (.bool _) .nil))⟩
    clear hgl hew
    unfold numV numB
    cases hat : Lib.atoiAll s with
    | ok v =>
      have key : Calls Tryz.prog 220 #[.string ⟨⟨s⟩⟩] w fun e w' => e = .returned (.tuple #[.int .i64 v, .nilIface]) ∧ Below w.heap.size w w' :=
        (Tryz.strconv_Atoi_ok ⟨⟨s⟩⟩ (by omega) v hat w).mono fun e w' ⟨h1, h2⟩ => ⟨h1, by
          rcases h2 with rfl | ⟨t, rfl⟩
          · exact Below.refl _ _
          · exact Lib.bytesWorld_below _ _ _⟩
      simp only
      by_cases h1 : 1 ≤ v
      · by_cases h2 : v ≤ 256
        · have ik : ∀ w', Below w.heap.size w w' → Calls Tryz.prog 143 #[.int .i64 v] w' fun e w2 => e = .returned (.string ⟨⟨textN 10 v⟩⟩) ∧ Below w.heap.size w w2 := fun w' hb =>
            (Tryz.strconv_Itoa v (by omega) (by omega) w' (tab_below htab hb)).mono fun e w2 ⟨g1, k, os, g2⟩ => by
              rw [itoa_textN (by omega)] at g1
              subst g2
              exact ⟨g1, hb.trans ((grow_below (w := w')).mono hb.size)⟩
          have hds : decide (1 ≤ v) = true := by simpa using h1
          have hds2 : decide (v ≤ 256) = true := by simpa using h2
          rw [hds, hds2]
          simp only [Bool.true_and]
          go_enter Tryz.func151, Tryz.ntmps151
          go_wp2_with (first
            | (go_at_call 220; refine key.mono ?_; rintro e w1 ⟨rfl, hb⟩)
            | (go_at_call 143; refine (ik w1 hb).mono ?_; rintro e w2 ⟨rfl, hb2⟩))
          go_ret2
          have hd : decide (textN 10 v = s) = (textN 10 v == s) := by rw [Bool.eq_iff_iff]; simp
          rw [hd]
          exact fin v _ w2 hb2
        · have hf : (decide (1 ≤ v) && decide (v ≤ 256) && decide (textN 10 v = s)) = false := by simp [h2]
          rw [hf]
          go_enter Tryz.func151, Tryz.ntmps151
          go_wp2_with (go_at_call 220; refine key.mono ?_; rintro e w1 ⟨rfl, hb⟩)
          go_ret2
          exact fin v false w1 hb
      · have hf : (decide (1 ≤ v) && decide (v ≤ 256) && decide (textN 10 v = s)) = false := by simp [h1]
        rw [hf]
        go_enter Tryz.func151, Tryz.ntmps151
        go_wp2_with (go_at_call 220; refine key.mono ?_; rintro e w1 ⟨rfl, hb⟩)
        go_ret2
        exact fin v false w1 hb
    | range =>
      have key := Tryz.strconv_Atoi_range ⟨⟨s⟩⟩ hsz hat _ w e7 (.inr ⟨_, _, rfl⟩)
      simp only
      go_enter Tryz.func151, Tryz.ntmps151
      go_wp2_with (go_at_call 220; refine key.mono ?_; rintro e w1 ⟨N, rfl, hN, _, hb⟩)
      go_ret2
      exact fin _ false w1 hb
    | _ =>
      have key := Tryz.strconv_Atoi_syntax ⟨⟨s⟩⟩ hsz hat _ w e6 (.inr ⟨_, _, rfl⟩)
      simp only
      go_enter Tryz.func151, Tryz.ntmps151
      go_wp2_with (go_at_call 220; refine key.mono ?_; rintro e w1 ⟨N, rfl, hN, _, hb⟩)
      go_ret2
      exact fin 0 false w1 hb
  · cases h
end Go.Proofs.YthhpdnlfhofanaaGreatDoor
namespace Go.Proofs.YthhpdnlfhofanaaGreatDoor
open Go.RowKit
set_option linter.unusedVariables false
def repPrim : List V → Option (Bool × V)
  | [.str s, .int .i64 c] => some (andB (andB (leI 0 c) (leI c 9223372036854775807)) (leN (s.length * c.toNat) 140737488355328), .str (Lib.repeatL s c.toNat))
  | _ => none
theorem rep_prim (gl : Gl) : PrimOk Tryz.prog gl 117 repPrim := by
  intro vs r h S w xs hS hx hgl hew
  unfold repPrim at h
  split at h
  · rename_i s c
    simp only [Option.some.injEq, Prod.mk.injEq] at h
    obtain ⟨hg, rfl⟩ := h
    simp only [andB, leI, leN, Bool.and_eq_true, decide_eq_true_eq] at hg
    obtain ⟨⟨h1, h2⟩, h3⟩ := hg
    obtain ⟨x0, xs0, rfl, g0, hx⟩ := hx.cons_inv
    obtain ⟨x1, xs1, rfl, g1, hx⟩ := hx.cons_inv
    obtain rfl := hx.nil_inv
    cases g0
    cases g1
    have := Tryz.strings_Repeat ⟨⟨s⟩⟩ c.toNat w (by omega) (by simpa [ByteArray.size] using h3)
    rw [Int.toNat_of_nonneg h1] at this
    refine this.mono ?_
    rintro e w' ⟨rfl, hb⟩
    exact ⟨S, _, rfl, quiet_inv hS hb, .str _⟩
  · cases h
end Go.Proofs.YthhpdnlfhofanaaGreatDoor
namespace Go.Proofs.YthhpdnlfhofanaaGreatDoor
open Go.RowKit
section
variable {P : Program} {w : World}
theorem tab_glob {name : String} {k : IntKind} {zs : List Int} {g : Nat} (h : Lib.TabIs P w name k zs) (hn : P.globalNamed name = some g) :
    RV (fun _ => none) (· < w.heap.size) w (.rptr (zs.map (V.int k)) 0) (.pointer (some ⟨g, 0, none⟩)) ∧ ∃ arr t fr, w.heap[g]? = some (.cells arr t fr) ∧ arr.size = (zs.map (V.int k)).length := by
  unfold Lib.TabIs World.var? at h
  rw [hn] at h
  simp only [Option.bind_some] at h
  split at h
  · rename_i cs t fr hh
    injection h with h
    subst h
    refine ⟨?_, _, _, _, hh, by simp⟩
    have hlt : g < w.heap.size := by
      rcases Nat.lt_or_ge g w.heap.size with h' | h'
      · exact h'
      · simp [Array.getElem?_eq_none h'] at hh
    refine .rptr _ 0 g 0 (fun j => .int k (zs.getD j 0)) hlt (fun j v hv => ?_) (fun j v hv => ?_) (fun j v hv => ?_)
    · have hj : j < zs.length := by have := lt_of_get hv; simpa using this
      simp only [World.cell?, hh]
      simp [hj]
    · have hj : j < zs.length := by have := lt_of_get hv; simpa using this
      simp [hj] at hv
      subst hv; rfl
    · have hj : j < zs.length := by have := lt_of_get hv; simpa using this
      simp [hj] at hv
      subst hv
      simp [hj]
      exact .int _ _
  · cases h
end
theorem seatOwn : ownKnob Tryz.prog.godebug = none := by kernel_rfl
abbrev lay7 : List (String × DataW Unit) := [("math/bits.deBruijn32tab", Rows.laid_math_bits_deBruijn32tab), ("math/bits.deBruijn64tab", Rows.laid_math_bits_deBruijn64tab), ("internal/strconv.uint64pow10", Rows.laid_internal_strconv_uint64pow10),
  ("unicode/utf8.acceptRanges", Rows.laid_unicode_utf8_acceptRanges), ("strconv.ErrRange", Rows.laid_strconv_ErrRange), ("strconv.ErrSyntax", Rows.laid_strconv_ErrSyntax), ("unicode/utf8.first", Rows.laid_unicode_utf8_first)]
/-- The number that none tells is some number. -/
theorem mx_tab {W : World} (h : W.ShapedOpen Tryz.prog) : ∃ m, Lib.TabIs Tryz.prog W "internal/bytealg.MaxLen" .i64 [m] := by
  obtain ⟨m, hm⟩ := Go.Proofs.cell_of_shapedOpen_int (g := 1) (zero := #[.int .i64 0]) (t := 3) h (of_decide_eq_true (by kernel_rfl)) (by kernel_rfl) rfl (by kernel_rfl) (by kernel_rfl) Tryz.underlying3
  obtain ⟨cs, hh, hs, _⟩ := h.1 1 #[.int .i64 0] 3 (of_decide_eq_true (by kernel_rfl)) (by kernel_rfl)
  have hs : cs.size = 1 := hs
  refine ⟨m, ?_⟩
  unfold Lib.TabIs World.var?
  rw [show Tryz.prog.globalNamed "internal/bytealg.MaxLen" = some 1 by kernel_rfl]
  simp only [Option.bind_some, hh]
  congr 1
  apply Array.ext
  · simpa using hs
  · intro i hi1 hi2
    have : i = 0 := by omega
    subst this
    simp only [World.cell?, hh] at hm
    have : cs[0]? = some (Value.int .i64 m) := hm
    rw [Array.getElem?_eq_getElem hi1] at this
    injection this
theorem err_glob {P : Program} {w : World} {n : String} {g : Nat} {t : TypeId} {x : Value} (h : w.var? P n = some #[.iface t x]) (hn : P.globalNamed n = some g) :
    RV (fun _ => none) (· < w.heap.size) w (.rptr [.ifc] 0) (.pointer (some ⟨g, 0, none⟩)) ∧ ∃ arr t fr, w.heap[g]? = some (.cells arr t fr) ∧ arr.size = ([V.ifc] : List V).length := by
  unfold World.var? at h
  rw [hn] at h
  simp only [Option.bind_some] at h
  split at h
  · rename_i cs t' fr hh
    injection h with h
    subst h
    refine ⟨?_, _, _, _, hh, by simp⟩
    have hlt : g < w.heap.size := by
      rcases Nat.lt_or_ge g w.heap.size with h' | h'
      · exact h'
      · simp [Array.getElem?_eq_none h'] at hh
    have one : ∀ (j : Nat) v, ([V.ifc] : List V)[j]? = some v → j = 0 ∧ v = .ifc := fun j v hv => by
      match j with
      | 0 => exact ⟨rfl, by simpa using hv.symm⟩
      | j + 1 => simp at hv
    refine .rptr _ 0 g 0 (fun _ => .iface t x) hlt (fun j v hv => ?_) (fun j v hv => ?_) (fun j v hv => ?_)
    · obtain ⟨rfl, rfl⟩ := one j v hv
      simp only [World.cell?, hh]
      simp
    · obtain ⟨rfl, rfl⟩ := one j v hv
      rfl
    · obtain ⟨rfl, rfl⟩ := one j v hv
      exact .ifc _ _
  · cases h
theorem err_star : "*" ++ "errors.errorString" = "*errors.errorString" := by decide
theorem err_row (u : TypeId) (h : Tryz.prog.typeName? 3 u = some "*errors.errorString") : u = 403 :=
  typeName_ptr_named (nm := "errors.errorString") (by rw [err_star]; kernel_rfl) (by kernel_rfl) (by decide) u (by rw [err_star]; exact h)
theorem laid_globP {W : World} (h : laidMet Tryz.prog lay7 W) [MaxL] (hm : Lib.TabIs Tryz.prog W "internal/bytealg.MaxLen" .i64 [MaxL.m]) : GlobR glM (fun _ => none) (· < W.heap.size) W ∧ ExW glM W := by
  have h1 : Lib.TabIs Tryz.prog W "math/bits.deBruijn64tab" .u8 tab64L := Lib.tabIs_of_head (g := 5) (t := 395) (e := 5) (n := 64) (by kernel_rfl) (by kernel_rfl) (by kernel_rfl) (by kernel_rfl) (by kernel_rfl) (by kernel_rfl) (h.tail)
  have h2 : Lib.TabIs Tryz.prog W "internal/strconv.uint64pow10" .u64 pow10L := Lib.tabIs_of_head (g := 0) (t := 350) (e := 270) (n := 20) (by kernel_rfl) (by kernel_rfl) (by kernel_rfl) (by kernel_rfl) (by kernel_rfl) (by kernel_rfl) (h.tail.tail)
  have hr : laidMet Tryz.prog (("strconv.ErrRange", Rows.laid_strconv_ErrRange) :: [("strconv.ErrSyntax", Rows.laid_strconv_ErrSyntax), ("unicode/utf8.first", Rows.laid_unicode_utf8_first)]) W := h.tail.tail.tail.tail
  obtain ⟨a4, s4, h4, _⟩ := laid_sentinel (g := 7) (ti := 114) (tp := 403) (te := 405) (ts := 9) hr (by kernel_rfl) (by kernel_rfl) Tryz.underlying114 err_row Tryz.underlying403 Tryz.underlying405 rfl rfl Tryz.underlying9 (by kernel_rfl) (by kernel_rfl)
  obtain ⟨a5, s5, h5, _⟩ := laid_sentinel (g := 6) (ti := 114) (tp := 403) (te := 405) (ts := 9) hr.tail (by kernel_rfl) (by kernel_rfl) Tryz.underlying114 err_row Tryz.underlying403 Tryz.underlying405 rfl rfl Tryz.underlying9 (by kernel_rfl) (by kernel_rfl)
  have g1 := tab_glob (g := 5) h1 (by kernel_rfl)
  have g2 := tab_glob (g := 0) h2 (by kernel_rfl)
  have g3 := tab_glob (g := 1) hm (by kernel_rfl)
  have g4 := err_glob (g := 7) h4 (by kernel_rfl)
  have g5 := err_glob (g := 6) h5 (by kernel_rfl)
  have key : ∀ (g : Nat) cs, glM g = some cs → (g = 5 ∧ cs = tab64L.map (V.int .u8)) ∨ (g = 0 ∧ cs = pow10L.map (V.int .u64)) ∨ (g = 1 ∧ cs = [MaxL.m].map (V.int .i64)) ∨
      (g = 7 ∧ cs = [.ifc]) ∨ (g = 6 ∧ cs = [.ifc]) := by
    intro g cs e
    unfold glM glT at e
    simp only [Bool.cond_eq_ite] at e
    split at e
    · rename_i hq
      injection e with e
      exact .inr (.inr (.inl ⟨Nat.eq_of_beq_eq_true hq, e.symm⟩))
    · split at e
      · rename_i hq
        injection e with e
        exact .inr (.inr (.inr (.inr ⟨Nat.eq_of_beq_eq_true hq, e.symm⟩)))
      · split at e
        · rename_i hq
          injection e with e
          exact .inr (.inr (.inr (.inl ⟨Nat.eq_of_beq_eq_true hq, e.symm⟩)))
        · split at e
          · rename_i hq
            injection e with e
            exact .inl ⟨Nat.eq_of_beq_eq_true hq, e.symm⟩
          · split at e
            · rename_i hq
              injection e with e
              exact .inr (.inl ⟨Nat.eq_of_beq_eq_true hq, e.symm⟩)
            · cases e
  refine ⟨fun g cs e => ?_, fun g cs e => ?_⟩
  · rcases key g cs e with ⟨rfl, rfl⟩ | ⟨rfl, rfl⟩ | ⟨rfl, rfl⟩ | ⟨rfl, rfl⟩ | ⟨rfl, rfl⟩
    · exact g1.1
    · exact g2.1
    · exact g3.1
    · exact g4.1
    · exact g5.1
  · rcases key g cs e with ⟨rfl, rfl⟩ | ⟨rfl, rfl⟩ | ⟨rfl, rfl⟩ | ⟨rfl, rfl⟩ | ⟨rfl, rfl⟩
    · exact g1.2
    · exact g2.2
    · exact g3.2
    · exact g4.2
    · exact g5.2
/-- The frame of a row: what the listed variables hold, and the world's shape. -/
theorem handed_and_shaped {H : Type} {enc : TypeId × Value → H} {a : Assume} {C : Checked} {os : Os} {f : FuncId} {fn : Func} {s : ChangeSpec} {conds : List PathCond} {apart fresh handsOn again : Bool} {X : World → Array Value → Prop}
    (hX : ∀ (w w' : World) (args : Array Value), w.heap = w'.heap → X w args → X w' args)
    (own : ownKnob C.prog.godebug = none) (started : os.Started) (noInit : C.prog.inits.idxOf? f = none) (hfn : C.prog.funcs[f]? = some fn)
    (witness : ∃ (w : World) (tape : Tape) (i : Input), w.os = os ∧ (w.forCall tape i).Shaped C.prog ∧ i.vars = [] ∧ Input.okWide C.prog (w.forCall tape i) .any w.heap.size f i ∧
      ((s.pre enc C.prog fn conds apart (w.forCall tape i).memory i.args ∧ X (w.forCall tape i).memory i.args) ∧ sizedMet enc C.prog fn (OpenSpec.ofChange s) apart (w.forCall tape i).memory i.args) ∧ a.holds C.prog (lone (Frame.enter C.prog f i.args .normal) [] (w.forCall tape i)))
    (contract : ∀ (W : World) (base : Nat) (args : Array Value) (ds gs : List (DataW H)) (before : List MemPlace),
      (∀ (j : Nat) t v, fn.params[j]? = some t → args[j]? = some v → Value.okWide C.prog W .any base t v) → DataW.Whole enc C.prog fn.params.toList s.vars apart W args.toList ds gs before →
      (DataW.weightsEach C.prog (fn.params.toList ++ s.plain.varTypes C.prog) (ds ++ gs)).all (· ≤ reachBytes) = true → X W args → W.ShapedOpen C.prog →
      Calls C.prog f args W fun e W' => ∃ v, e = .returned v ∧ s.post enc C.prog fn apart fresh handsOn again W args v W') :
    ReturnsInHanded a C os f .any (fun w args => (s.pre enc C.prog fn conds apart w args ∧ X w args) ∧ sizedMet enc C.prog fn (OpenSpec.ofChange s) apart w args) (s.post enc C.prog fn apart fresh handsOn again) := by
  refine returnsInHanded_of_calls own started noInit witness ?_
  rintro w tape i _ hsh _ ⟨_, _, _, fn', hfn', _, _, _, _, hval⟩ ⟨⟨⟨ds, gs, before, hw, _⟩, hx⟩, hz⟩ _
  obtain rfl : fn' = fn := Option.some.inj (hfn'.symm.trans hfn)
  refine (contract (w.forCall tape i) w.heap.size i.args ds gs before hval (DataW.Whole.of_heap (w' := w.forCall tape i) (by rfl) hw) (hz.weights hw) (hX _ _ _ (by rfl) hx) hsh).mono ?_
  rintro e W' ⟨v, rfl, hp⟩
  exact ChangeSpec.post_blind hp
end Go.Proofs.YthhpdnlfhofanaaGreatDoor
namespace Go.Proofs.YthhpdnlfhofanaaGreatDoor
open Go.RowKit
set_option linter.unusedVariables false
set_option linter.unusedSimpArgs false
def bldN : Nat := (112 + 1) * 1000000 + (5 + 1)
section
variable {C : Ctx} {m : Gh} {S : Nat → Prop} {h : Heap} {w : World}
theorem bld_box (hi : Inv C S m h w) {s s' : Nat} {b : Bk} {r : RB} {v : V} (hs : hget h s = some b) (hl : b.live = true) (hbox : b.box = true) (hty : b.ty = bldN) (hm : m s = some r) (hk : r.kind = .cells) (he : b.elems = [[.slf s', v]]) :
    r.base = 0 ∧ r.sz = 2 ∧ r.tot = 2 ∧ r.len = 1 ∧ ∃ p y fr, w.heap[r.blk]? = some (.cells #[p, y] 112 fr) ∧ (b.wr = true → fr = (0, 0)) ∧ RV m S w (.slf s') p ∧ RV m S w v y ∧ V.leaf v = true := by
  obtain ⟨r0, hm0, hb0⟩ := hi.bks s b hs hl
  rw [hm] at hm0; injection hm0 with hm0; subst hm0
  obtain ⟨arr, ty, fr, g1, g2, g3, g4, g5, g6, g7, g8, g9, g10⟩ := hb0.cells hk
  have h1 := hi.tyOk hs hl hm hk g1 (by rw [hty]; decide)
  obtain ⟨ht, hbase, hsz⟩ := h1
  have hty2 : ty = 112 := by
    rw [hty] at ht
    have : tyC bldN = 112 + 1 := by decide
    exact Nat.succ.inj (ht.trans this)
  have hc := g10 0 [.slf s', v] (by rw [he]; rfl)
  have hsz2 : r.sz = 2 := hc.1.symm
  have htot := hsz hbox
  obtain ⟨p, hp, hp2⟩ := hc.2 0 _ rfl
  obtain ⟨y, hy, hy2⟩ := hc.2 1 _ rfl
  rw [hbase] at hp hy
  have ea : arr = #[p, y] := by
    have hs2 : arr.size = 2 := by omega
    apply Array.ext
    · exact hs2
    · intro i h1 h2
      have : i = 0 ∨ i = 1 := by omega
      rcases this with rfl | rfl
      · have := (Array.getElem?_eq_some_iff.1 hp).2; simpa using this
      · have := (Array.getElem?_eq_some_iff.1 hy).2; simpa using this
  subst ea hty2
  exact ⟨hbase, hsz2, by omega, by rw [← g7, he]; rfl, p, y, fr, g1, g2, hp2, hy2, g9 0 [.slf s', v] 1 v (by rw [he]; rfl) rfl⟩
end
theorem bldInfo : ∃ j, Tryz.prog.info? 112 = some j ∧ j.size = 2 := by
  have h : (Tryz.prog.info? 112).map (·.size) = some 2 := by kernel_rfl
  exact Option.map_eq_some_iff.1 h
theorem bldLies : liesAt Tryz.prog Tryz.prog.depth 112 (2 / Tryz.prog.cellsOf 112) 0 112 1 = true := by kernel_rfl
theorem row_frozen {w : World} {g : Nat} {t : TypeId} {cs : Array Value} (h : w.heap[g]? = some (.cells cs t (0, 0))) (i : Nat) : w.frozen? ⟨g, i, none⟩ = false := by
  simp [World.frozen?, h]
set_option maxRecDepth 100000 in
set_option maxHeartbeats 800000 in
theorem check_fresh (bb : Nat) (v : Value) (w : World) (hb : w.heap[bb]? = some (.cells #[.pointer none, v] 112 (0, 0))) :
    Calls Tryz.prog 114 #[.pointer (some ⟨bb, 0, none⟩)] w fun e w' => e = .returned (.tuple #[]) ∧ w' = w.setCell ⟨bb, 0, none⟩ (.pointer (some ⟨bb, 0, none⟩)) := by
  have c0 : w.cell? ⟨bb, 0, none⟩ = some (.pointer none) := cell_of_row w bb 0 _ _ _ hb
  have c1 : w.cell? ⟨bb, 1, none⟩ = some v := cell_of_row w bb 1 _ _ _ hb
  have f0 := row_frozen hb
  obtain ⟨j, hj, hjs⟩ := bldInfo
  have hsh : w.shape? bb = some (112, 2) := by simp [World.shape?, hb]
  clear hb
  go_enter Tryz.func114, Tryz.ntmps114
  go_wp2
  rw [Lib.run_to_unsafe w ⟨bb, 0, none⟩ Tryz.underlying109 Tryz.underlying278 hj (by rw [hjs]; decide) hsh (Nat.zero_lt_succ 1)]
  simp only [Result.andThen]
  rw [Oper.upon_value]
  go_wp2
  rw [run_callFunc_extern Tryz.func202 (by kernel_rfl) (by kernel_rfl) (by kernel_rfl) (e := Extern.AbiNoEscape.same) (by kernel_rfl)]
  rw [Lib.run_noEscape]
  simp only [Result.andThen]
  rw [Oper.upon_value]
  go_wp2
  rw [Lib.run_from_unsafe w ⟨bb, 0, none⟩ Tryz.underlying278 Tryz.underlying109 hj hsh bldLies]
  simp only [Result.andThen]
  rw [Oper.upon_value]
  go_wp2
  go_end0
  exact ⟨rfl, rfl⟩
set_option maxRecDepth 100000 in
set_option maxHeartbeats 800000 in
theorem check_used (bb : Nat) (v : Value) (w : World) (hb : w.heap[bb]? = some (.cells #[.pointer (some ⟨bb, 0, none⟩), v] 112 (0, 0))) :
    Calls Tryz.prog 114 #[.pointer (some ⟨bb, 0, none⟩)] w fun e w' => e = .returned (.tuple #[]) ∧ w' = w := by
  have c0 : w.cell? ⟨bb, 0, none⟩ = some (.pointer (some ⟨bb, 0, none⟩)) := cell_of_row w bb 0 _ _ _ hb
  have c1 : w.cell? ⟨bb, 1, none⟩ = some v := cell_of_row w bb 1 _ _ _ hb
  have f0 := row_frozen hb
  clear hb
  obtain ⟨j, hj, hjs⟩ := bldInfo
  go_enter Tryz.func114, Tryz.ntmps114
  go_wp2
  rw [Lib.run_neq_ptr_same w _ Tryz.underlying109 hj]
  go_wp2
  go_end0
  exact ⟨rfl, rfl⟩
theorem self_elems {α : Type} {l : List (List V)} {f : Nat → V → M α} {h : Heap} {x : α × List Nat} (e : (match l with | [[.slf s', v]] => f s' v | _ => M.fail) h = some x) : ∃ s' v, l = [[.slf s', v]] ∧ f s' v h = some x := by
  rcases l with _ | ⟨c, l⟩
  · cases e
  · rcases c with _ | ⟨a, _ | ⟨v, _ | ⟨v2, t⟩⟩⟩
    · cases e
    · cases a <;> cases e
    · rcases l with _ | ⟨c2, l⟩
      · cases a <;> first | exact ⟨_, _, rfl, e⟩ | cases e
      · cases a <;> cases e
    · cases a <;> cases e
theorem self_spec : SpecOk Tryz.prog 114 fun _ vs => selfV bldN vs := by
  intro C m S h w site vs q rr e hi xs hx
  replace e : selfV bldN vs h = some (q, rr) := e
  unfold selfV at e
  split at e
  · rename_i s
    obtain ⟨b, r1, r2, e1, e2, _⟩ := M.inv_bind e
    obtain ⟨hs, hl, _⟩ := M.inv_rdl e1
    obtain ⟨_, r3, r4, e3, e4, _⟩ := M.inv_bind e2
    obtain ⟨hg, _⟩ := M.inv_guard e3
    simp only [Bool.and_eq_true] at hg
    obtain ⟨⟨⟨hw, hbox⟩, hty⟩, _⟩ := hg
    have hty := Nat.eq_of_beq_eq_true hty
    obtain ⟨s', v, hel, e4⟩ := self_elems (α := V × Upd) (l := b.elems) (f := fun s' _ => (bif Nat.beq s' s then pure (V.tup [], [(s, b)]) else M.fail : M (V × Upd))) (h := h) (x := (q, r4)) e4
    · simp only [Bool.cond_eq_ite] at e4
      split at e4
      · rename_i hss
        have hss := Nat.eq_of_beq_eq_true hss
        subst hss
        obtain ⟨rfl, _⟩ := M.inv_pure e4
        obtain ⟨X, xs', rfl, hX, hxs⟩ := hx.cons_inv
        obtain rfl := hxs.nil_inv
        cases hX with
        | ptr _ _ _ r hm hk hlt =>
          obtain ⟨hbase, hsz, htot, hlen, p, y, fr, g1, g2, hp, hy, hvl⟩ := bld_box hi hs hl hbox hty hm hk hel
          obtain rfl := g2 hw
          have ead : (⟨r.blk, r.base + 0 * r.sz + 0, none⟩ : Addr) = ⟨r.blk, 0, none⟩ := by rw [hbase, Nat.zero_mul]
          rw [ead]
          have same : b = { b with elems := [[.slf s', v]] } := by cases b; simp_all
          have wr : ∀ w' : World, w'.heap[r.blk]? = some (.cells #[.pointer (some ⟨r.blk, 0, none⟩), y] 112 (0, 0)) → (∀ k, k ≠ r.blk → w'.heap[k]? = w.heap[k]?) → w'.heap.size = w.heap.size → w'.os = w.os → w'.tape = w.tape → w'.output = w.output →
              Ext C S m w S m ((s', b) :: h) w' := by
            intro w' a1 a2 a3 a4 a5 a6
            obtain ⟨i1, i2⟩ := hi.write hs hl hw hm hk (elems := [[.slf s', v]]) (hi.tyOk hs hl hm hk g1) a1 a2 a3 a4 a5 a6 (by rw [hlen]; rfl) (by rw [htot]; rfl) (fun q => by rw [hbox] at q; cases q)
              (fun i c j u hc hu => by
                match i, hc with
                | 0, hc =>
                  simp at hc; subst hc
                  match j, hu with
                  | 0, hu => simp at hu; subst hu; rfl
                  | 1, hu =>
                    simp at hu; subst hu
                    exact hvl)
              (fun i c hc => by
                match i, hc with
                | 0, hc =>
                  simp at hc; subst hc
                  refine ⟨by rw [hsz]; rfl, fun j u hu => ?_⟩
                  rw [hbase, hsz]
                  match j, hu with
                  | 0, hu => simp at hu; subst hu; exact ⟨.pointer (some ⟨r.blk, 0, none⟩), rfl, .slf s' r _ hm hk (.inr (by rw [hbase]))⟩
                  | 1, hu => simp at hu; subst hu; exact ⟨_, rfl, hy⟩)
            rw [← same] at i1
            exact ⟨i1, fun _ _ h => h, fun _ h => h, i2⟩
          have hpp : p = .pointer none ∨ p = .pointer (some ⟨r.blk, 0, none⟩) := by
            cases hp with
            | slf _ r' _ hm' _ hx' =>
              rw [hm] at hm'; injection hm' with hm'; subst hm'
              rw [hbase] at hx'
              exact hx'
          rcases hpp with rfl | rfl
          · refine (check_fresh r.blk y w g1).mono ?_
            rintro e w' ⟨rfl, rfl⟩
            refine ⟨S, m, _, rfl, wr _ ?_ ?_ ?_ rfl rfl rfl, .tup [] [] rfl (by simp)⟩
            · simp [World.setCell, Array.getElem?_modify, g1]
            · intro k hk'
              exact Below.heap_setCell _ _ _ _ hk'
            · simp [World.setCell]
          · refine (check_used r.blk y w g1).mono ?_
            rintro e w' ⟨rfl, rfl⟩
            exact ⟨S, m, _, rfl, wr _ g1 (fun _ _ => rfl) rfl rfl rfl rfl, .tup [] [] rfl (by simp)⟩
      · cases e4
  · cases e
-- a row whose frozen part changes
section
variable {C : Ctx} {m m' : Gh} {S S' : Nat → Prop} {h : Heap} {w w' : World}
theorem RV.monoC {v : V} {x : Value} (h : RV m S w v x) (hm : ∀ s r, m s = some r → m' s = some r) (hs : ∀ b, S b → S' b) (hw : ∀ b i, S b → w'.cell? ⟨b, i, none⟩ = w.cell? ⟨b, i, none⟩) : RV m' S' w' v x := by
  induction h with
  | bool b => exact .bool b
  | int k n => exact .int k n
  | str s => exact .str s
  | nilp => exact .nilp
  | nils => exact .nils
  | nilf => exact .nilf
  | nili => exact .nili
  | ifc t x => exact .ifc t x
  | nilm => exact .nilm
  | it s r h1 h2 => exact .it s r (hm _ _ h1) h2
  | map s r h1 h2 => exact .map s r (hm _ _ h1) h2
  | emp a => exact .emp a
  | ptr s i o r h1 h2 h3 => exact .ptr s i o r (hm _ _ h1) h2 h3
  | refN s off r a h1 h2 => exact .refN s off r a (hm _ _ h1) h2
  | slf s r x h1 h2 h3 => exact .slf s r x (hm _ _ h1) h2 h3
  | ref s off len cm cap r h1 h2 h3 h4 h5 h6 => exact .ref s off len cm cap r (hm _ _ h1) h2 h3 h4 h5 h6
  | rptr cs o b off u h1 h2 h3 h4 ih => exact .rptr cs o b off u (hs _ h1) (fun j v hv => (hw _ _ h1).trans (h2 j v hv)) h3 ih
  | lst0 a c => exact .lst0 a c
  | lst xs b off z c u h1 h2 h3 h4 h5 h6 ih => exact .lst xs b off z c u (hs _ h1) h2 h3 (fun i c j v hc hv => (hw _ _ h1).trans (h4 i c j v hc hv)) h5 ih
  | func f a c xs ys h1 h2 h3 h4 ih1 ih2 => exact .func f a c xs ys h1 h2 ih1 ih2
  | agg cs xs h1 h2 ih => exact .agg cs xs h1 ih
  | tup cs xs h1 h2 ih => exact .tup cs xs h1 ih
theorem Inv.freezeW (hi : Inv C S m h w) {a : Nat} {c : Bk} {r : RB} (hs : hget h a = some c) (hl : c.live = true) (hw : c.wr = true) (hm : m a = some r) (hk : r.kind = .cells) {arr : Array Value} {ty : TypeId} {fr : Nat × Nat}
    (g : w.heap[r.blk]? = some (.cells arr ty (0, 0))) (e1 : w'.heap[r.blk]? = some (.cells arr ty fr)) (e1' : ∀ k, k ≠ r.blk → w'.heap[k]? = w.heap[k]?) (es : w'.heap.size = w.heap.size) (e2 : w'.os = w.os) (e3 : w'.tape = w.tape) (e4 : w'.output = w.output) :
    ∃ S', Ext C S m w S' m ((a, { c with wr := false }) :: h) w' := by
  have hown := hi.own a c r hs hl hm (RB.nil_of_cells hk)
  obtain ⟨S', i1, i2, i3, i4⟩ := hi.freeze hs hl
  have hcell : ∀ b i, w'.cell? ⟨b, i, none⟩ = w.cell? ⟨b, i, none⟩ := fun b i => by
    by_cases hb : b = r.blk
    · subst hb
      rw [cell_of_row w' r.blk i arr ty fr e1, cell_of_row w r.blk i arr ty (0, 0) g]
    · exact World.cell?_of_block (w := w) (e1' b hb)
  have hr : ∀ v x, RV m S' w v x → RV m S' w' v x := fun v x hv => hv.monoC (fun _ _ h => h) (fun _ h => h) (fun b i _ => hcell b i)
  refine ⟨S', ⟨⟨e2.trans i1.os, e3.trans i1.tape, e4.trans i1.output, by rw [es]; exact i1.size, fun k h1 h2 => ?_, i1.dom, fun i b hb hbl => ?_, i1.inj, i1.own, fun k hk => by rw [es]; exact i1.st k hk, i1.stNew, i1.stOld⟩, fun _ _ h => h, i2, fun v x hv => hr v x (i3 v x hv)⟩⟩
  · rw [e1' k (fun e => by subst e; rcases (hown.2.1 hw).1 with q | q; omega; exact h2 q)]
    exact i1.frame k h1 h2
  · obtain ⟨q, hq, hbk⟩ := i1.bks i b hb hbl
    refine ⟨q, hq, ?_⟩
    by_cases hia : i = a
    · subst hia
      rw [hm] at hq; injection hq with hq; subst hq
      refine ⟨hbk.isnil, fun hn => ⟨_, e1, ?_⟩⟩
      obtain ⟨o, ho, hor⟩ := hbk.obj hn
      rw [g] at ho; injection ho with ho; subst ho
      rw [hget_cons, if_pos rfl] at hb
      injection hb with hb
      subst hb
      have hor := hor.mono hr
      exact ⟨hor.1, (fun q => by cases q), hor.2.2⟩
    · refine hbk.mono hr fun hn => e1' _ fun e => ?_
      have hb' : hget h i = some b := by rw [hget_cons, if_neg (fun q => hia q.symm)] at hb; exact hb
      exact hi.inj i a b c q r hia hb' hs hbl hl hq hm hn (RB.nil_of_cells hk) e
end
-- String's walks
set_option maxRecDepth 100000 in
set_option maxHeartbeats 800000 in
theorem str_nil (bb : Nat) (p : Value) (fr : Nat × Nat) (w : World) (hb : w.heap[bb]? = some (.cells #[p, .slice none 0 0] 112 fr)) :
    Calls Tryz.prog 41 #[.pointer (some ⟨bb, 0, none⟩)] w fun e w' => e = .returned (.string ⟨#[]⟩) ∧ Below w.heap.size w w' := by
  have c1 : w.cell? ⟨bb, 1, none⟩ = some (.slice none 0 0) := cell_of_row w bb 1 _ _ _ hb
  have d1 : w.drew.cell? ⟨bb, 1, none⟩ = some (.slice none 0 0) := c1
  have hUS := fun (W : World) (q : Option Addr) => Lib.run_unsafeString_none (P := Tryz.prog) W 209 3 9 q
  have hSD : (Builtin.unsafeSliceData_ #[110] 209 #[.slice none 0 0]).run Tryz.prog w.drew = .ok (.pointer none) w.drew := rfl
  clear hb
  go_enter Tryz.func41, Tryz.ntmps41
  go_wp2
  go_region
  all_goals (go_wp2; go_ret; exact ⟨rfl, (Below.refl _ w).drew⟩)
set_option maxRecDepth 100000 in
set_option maxHeartbeats 800000 in
theorem str_zero (bb g o : Nat) (p : Value) (fr : Nat × Nat) (w : World) {sh : TypeId × Nat} (hg : w.shape? g = some sh) (hb : w.heap[bb]? = some (.cells #[p, .slice (some ⟨g, o, none⟩) 0 0] 112 fr)) :
    Calls Tryz.prog 41 #[.pointer (some ⟨bb, 0, none⟩)] w fun e w' => e = .returned (.string ⟨#[]⟩) ∧ Below w.heap.size w w' := by
  have c1 : w.cell? ⟨bb, 1, none⟩ = some (.slice (some ⟨g, o, none⟩) 0 0) := cell_of_row w bb 1 _ _ _ hb
  have d1 : w.drew.cell? ⟨bb, 1, none⟩ = some (.slice (some ⟨g, o, none⟩) 0 0) := c1
  have hUS := fun (W : World) (q : Option Addr) => Lib.run_unsafeString_none (P := Tryz.prog) W 209 3 9 q
  have hSD : (Builtin.unsafeSliceData_ #[110] 209 #[.slice (some ⟨g, o, none⟩) 0 0]).run Tryz.prog w.drew = .ok (.pointer (some ⟨w.drew.heap.size, 0, none⟩)) (w.drew.alloc (.view ⟨g, o, none⟩ 5)) :=
    Lib.run_unsafeSliceData_zero w.drew _ _ 5 Tryz.underlying209 ⟨g, o, none⟩ 0 sh hg
  have hlt : bb < w.heap.size := by
    rcases Nat.lt_or_ge bb w.heap.size with hlt | hge
    · exact hlt
    · rw [Array.getElem?_eq_none hge] at hb; cases hb
  have b2 : (w.drew.alloc (.view ⟨g, o, none⟩ 5)).heap[bb]? = some (.cells #[p, .slice (some ⟨g, o, none⟩) 0 0] 112 fr) := (Below.heap_alloc w.drew _ bb hlt).trans hb
  have c2 : (w.drew.alloc (.view ⟨g, o, none⟩ 5)).cell? ⟨bb, 1, none⟩ = some (.slice (some ⟨g, o, none⟩) 0 0) := cell_of_row _ bb 1 _ _ _ b2
  have c3 : (w.alloc (.view ⟨g, o, none⟩ 5)).drew.cell? ⟨bb, 1, none⟩ = some (.slice (some ⟨g, o, none⟩) 0 0) := c2
  clear hb b2
  go_enter Tryz.func41, Tryz.ntmps41
  go_wp2
  go_region
  all_goals (go_wp2; go_ret; exact ⟨rfl, ((Below.refl _ w).drew).alloc (Nat.le_refl _) _⟩)
set_option maxRecDepth 100000 in
set_option maxHeartbeats 800000 in
theorem str_empty (bb g o c : Nat) (p : Value) (fr : Nat × Nat) (w : World) (hc : c ≠ 0) (hb : w.heap[bb]? = some (.cells #[p, .slice (some ⟨g, o, none⟩) 0 c] 112 fr)) :
    Calls Tryz.prog 41 #[.pointer (some ⟨bb, 0, none⟩)] w fun e w' => e = .returned (.string ⟨#[]⟩) ∧ Below w.heap.size w w' := by
  have c1 : w.cell? ⟨bb, 1, none⟩ = some (.slice (some ⟨g, o, none⟩) 0 c) := cell_of_row w bb 1 _ _ _ hb
  have d1 : w.drew.cell? ⟨bb, 1, none⟩ = some (.slice (some ⟨g, o, none⟩) 0 c) := c1
  have hUS := fun (W : World) (q : Option Addr) => Lib.run_unsafeString_none (P := Tryz.prog) W 209 3 9 q
  have hSD : (Builtin.unsafeSliceData_ #[110] 209 #[.slice (some ⟨g, o, none⟩) 0 c]).run Tryz.prog w.drew = .ok (.pointer (some ⟨g, o, none⟩)) w.drew :=
    Lib.run_unsafeSliceData_row _ _ _ _ _ _ hc
  clear hb hc
  go_enter Tryz.func41, Tryz.ntmps41
  go_wp2
  go_region
  all_goals (go_wp2; go_ret; exact ⟨rfl, (Below.refl _ w).drew⟩)
set_option maxRecDepth 100000 in
set_option maxHeartbeats 800000 in
theorem str_some (bb g n c : Nat) (p : Value) (fr : Nat × Nat) (w : World) (l : List UInt8) (arr : Array Value) (fr2 : Nat × Nat) (hn : l.length = n) (h0 : l ≠ []) (hc : n ≤ c) (hb : w.heap[bb]? = some (.cells #[p, .slice (some ⟨g, 0, none⟩) n c] 112 fr))
    (hg : w.heap[g]? = some (.cells arr 5 fr2)) (hsz : n ≤ arr.size) (h63 : n ≤ 9223372036854775807) (hcell : ∀ (j : Nat) (x : UInt8), l[j]? = some x → arr[j]? = some (Value.int .u8 (x.toNat : Int))) :
    Calls Tryz.prog 41 #[.pointer (some ⟨bb, 0, none⟩)] w fun e w' => e = .returned (.string ⟨l.toArray⟩) ∧ w' = w.drew.freeze ⟨g, 0, none⟩ n := by
  have c1 : w.cell? ⟨bb, 1, none⟩ = some (.slice (some ⟨g, 0, none⟩) n c) := cell_of_row w bb 1 _ _ _ hb
  have d1 : w.drew.cell? ⟨bb, 1, none⟩ = some (.slice (some ⟨g, 0, none⟩) n c) := c1
  have hl0 : l.length ≠ 0 := by simpa using h0
  have hSD : (Builtin.unsafeSliceData_ #[110] 209 #[.slice (some ⟨g, 0, none⟩) n c]).run Tryz.prog w.drew = .ok (.pointer (some ⟨g, 0, none⟩)) w.drew :=
    Lib.run_unsafeSliceData_row _ _ _ _ _ _ (by omega)
  have hUS2 : (Builtin.unsafeString_ #[209, 3] 9 #[.pointer (some ⟨g, 0, none⟩), .int .i64 n]).run Tryz.prog w.drew = .ok (.string ⟨l.toArray⟩) (w.drew.freeze ⟨g, 0, none⟩ n) := by
    have := Lib.run_unsafeString_row (P := Tryz.prog) w.drew 209 3 9 5 Tryz.underlying209 (by kernel_rfl) g arr.size (by have hg' : w.drew.heap[g]? = some (.cells arr 5 fr2) := hg; simp [World.shape?, hg']) l h0 (by omega) (by omega) (by
      intro j x hx
      rw [Addr.add_lit]
      show w.cell? ⟨g, 0 + j, none⟩ = _
      rw [Nat.zero_add, cell_of_row w g j arr _ _ hg]
      exact hcell j x hx)
    rw [hn] at this
    exact this
  clear hb hg hsz hcell hn h0 hl0 hc h63
  go_enter Tryz.func41, Tryz.ntmps41
  go_wp2
  go_region
  all_goals (go_wp2; go_ret; exact ⟨rfl, rfl⟩)
theorem frz_heap (w : World) (g n : Nat) {arr : Array Value} {ty : TypeId} {fr : Nat × Nat} (h : w.heap[g]? = some (.cells arr ty fr)) :
    ∃ fr', (w.freeze ⟨g, 0, none⟩ n).heap[g]? = some (.cells arr ty fr') ∧ (∀ k, k ≠ g → (w.freeze ⟨g, 0, none⟩ n).heap[k]? = w.heap[k]?) ∧ (w.freeze ⟨g, 0, none⟩ n).heap.size = w.heap.size ∧ (w.freeze ⟨g, 0, none⟩ n).os = w.os ∧ (w.freeze ⟨g, 0, none⟩ n).tape = w.tape ∧ (w.freeze ⟨g, 0, none⟩ n).output = w.output := by
  unfold World.freeze
  split
  · exact ⟨fr, h, fun _ _ => rfl, rfl, rfl, rfl, rfl⟩
  · refine ⟨_, by simp only [Array.getElem?_modify, if_true, h, Option.map_some]; rfl, fun k hk => ?_, by simp, rfl, rfl, rfl⟩
    simp only [Array.getElem?_modify]
    rw [if_neg (fun e => hk e.symm)]
theorem exact_bytes : ∀ {es : List (List V)} {l : List UInt8}, exactB es = true → bytesV es = some l → l.length = es.length ∧ ∀ (j : Nat) (x : UInt8), l[j]? = some x → es[j]? = some [V.int .u8 (x.toNat : Int)]
  | [], l, _, h2 => by
    simp only [bytesV, Option.some.injEq] at h2
    subst h2
    exact ⟨rfl, fun j x hx => by simp at hx⟩
  | c :: t, l, h1, h2 => by
    rcases c with _ | ⟨a, _ | ⟨b, r⟩⟩
    · cases h2
    · cases a <;> first | (cases h2; done) | skip
      rename_i k n
      cases k <;> first | (cases h2; done) | skip
      simp only [exactB, Bool.and_eq_true, decide_eq_true_eq] at h1
      simp only [bytesV] at h2
      obtain ⟨l2, e1, rfl⟩ := Option.map_eq_some_iff.1 h2
      obtain ⟨q1, q2⟩ := exact_bytes h1.2 e1
      refine ⟨by simp [q1], fun j x hx => ?_⟩
      match j, hx with
      | 0, hx =>
        simp only [List.getElem?_cons_zero, Option.some.injEq] at hx ⊢
        subst hx
        have : ((UInt8.ofNat n.toNat).toNat : Int) = n := by
          rw [UInt8.toNat_ofNat']
          have := h1.1.1; have := h1.1.2
          omega
        rw [this]
      | j + 1, hx => simpa using q2 j x (by simpa using hx)
    · cases a <;> first | (cases h2; done) | (rename_i k n; cases k <;> cases h2)
theorem bstr_spec : SpecOk Tryz.prog 41 fun _ vs => bstrV bldN vs := by
  intro C m S h w site vs q rr e hi xs hx
  replace e : bstrV bldN vs h = some (q, rr) := e
  unfold bstrV at e
  split at e
  · rename_i s
    obtain ⟨b, r1, r2, e1, e2, _⟩ := M.inv_bind e
    obtain ⟨hs, hl, _⟩ := M.inv_rdl e1
    obtain ⟨_, r3, r4, e3, e4, _⟩ := M.inv_bind e2
    obtain ⟨hg, _⟩ := M.inv_guard e3
    simp only [Bool.and_eq_true] at hg
    obtain ⟨⟨hbox, hty⟩, _⟩ := hg
    have hty := Nat.eq_of_beq_eq_true hty
    obtain ⟨s', v, hel, e4⟩ := self_elems (α := V × Upd) (l := b.elems) (f := fun _ x => (match x with
      | .nils => pure (.str [], [])
      | .ref a 0 len _ => do
        let c ← rdl a
        M.guard (c.wr && !c.box && Nat.beq c.ty (bldN % 1000000))
        match bytesV (c.elems.take len) with
        | some l => do
          M.guard (exactB (c.elems.take len) && decide (len ≤ bytes47))
          pure (.str l, [(a, { c with wr := false })])
        | none => M.fail
      | _ => M.fail : M (V × Upd))) (h := h) (x := (q, r4)) e4
    obtain ⟨X, xs', rfl, hX, hxs⟩ := hx.cons_inv
    obtain rfl := hxs.nil_inv
    cases hX with
    | ptr _ _ _ r hm hk hlt =>
      obtain ⟨hbase, hsz, htot, hlen, p, y, fr, g1, g2, hp, hy, hvl⟩ := bld_box hi hs hl hbox hty hm hk hel
      have ead : (⟨r.blk, r.base + 0 * r.sz + 0, none⟩ : Addr) = ⟨r.blk, 0, none⟩ := by rw [hbase, Nat.zero_mul]
      rw [ead]
      cases v with
      | nils =>
        obtain ⟨rfl, _⟩ := M.inv_pure e4
        cases hy
        refine (str_nil r.blk p fr w g1).mono ?_
        rintro e w' ⟨rfl, hb⟩
        exact ⟨S, m, _, rfl, hi.quiet (fun b hb => hb) (quiet_inv hi.st hb), .str []⟩
      | ref a off len cm =>
        rcases off with _ | off
        rotate_left
        · cases e4
        obtain ⟨c, r5, r6, e5, e6, _⟩ := M.inv_bind e4
        obtain ⟨hsa, hla, _⟩ := M.inv_rdl e5
        obtain ⟨_, r7, r8, e7, e8, _⟩ := M.inv_bind e6
        obtain ⟨hg, _⟩ := M.inv_guard e7
        simp only [Bool.and_eq_true, Bool.not_eq_true'] at hg
        obtain ⟨⟨hcw, hcbox⟩, hcty⟩ := hg
        have hcty := Nat.eq_of_beq_eq_true hcty
        cases hbl : bytesV (c.elems.take len) with
        | none => rw [hbl] at e8; cases e8
        | some l =>
          rw [hbl] at e8
          obtain ⟨_, r9, r10, e9, e10, _⟩ := M.inv_bind e8
          obtain ⟨hex, _⟩ := M.inv_guard e9
          simp only [Bool.and_eq_true, decide_eq_true_eq] at hex
          obtain ⟨hex, h47⟩ := hex
          obtain ⟨rfl, _⟩ := M.inv_pure e10
          obtain ⟨hll, hlc⟩ := exact_bytes hex hbl
          have hc0 : c.ty ≠ 0 := by rw [hcty]; decide
          -- an empty text: the row is only put down
          have emptyOk : l = [] → ∀ w' : World, Below w.heap.size w w' → ∃ S' m' x, Ending.returned (.string ⟨#[]⟩) = Ending.returned x ∧ Ext C S m w S' m' ((a, { c with wr := false }) :: h) w' ∧ RV m' S' w' (.str l) x := by
            intro hl0 w' hb
            subst hl0
            have hx1 := hi.quiet (fun b hb => hb) (quiet_inv hi.st hb)
            obtain ⟨S', i1, i2, i3, _⟩ := hx1.inv.freeze hsa hla
            exact ⟨S', m, _, rfl, ⟨i1, hx1.mono, fun b hb => i2 b (hx1.sub b hb), fun v x hv => i3 v x (hx1.rv v x hv)⟩, .str []⟩
          rcases ref_cells hi hy hsa hla with ⟨A, r0, rfl, rfl, rfl, hm0, hA⟩ | ⟨ra, arr, tyr, fra, cap, hma, hka, rfl, hoff, hlc2, hcc, hct, hh, hfr, htot2, hfit, hs1, hem, hlen2, hrow, hleaf, hcells⟩
          · have hl0 : l = [] := by
              rw [List.take_zero] at hbl
              simp only [bytesV, Option.some.injEq] at hbl
              exact hbl.symm
            obtain ⟨r00, hm00, hb00⟩ := hi.bks a c hsa hla
            rw [hm0] at hm00; injection hm00 with hm00; subst hm00
            have : A = none ∨ r0.kind = .cells ∧ ∃ o, A = some ⟨r0.blk, o, none⟩ := by
              rcases hA.2.2 with hk0 | hk0
              · have hn0 : r0.nil = true := by unfold RB.nil; rw [hk0]
                exact .inl (hA.1 hk0 ((hb00.isnil hn0).2.2.2 hc0))
              · rcases hA.2.1 hk0 with q | ⟨o, q⟩
                · exact .inl q
                · exact .inr ⟨hk0, o, q⟩
            rcases this with rfl | ⟨hk0, o, rfl⟩
            · refine (str_nil r.blk p fr w g1).mono ?_
              rintro e w' ⟨rfl, hb⟩
              exact emptyOk hl0 w' hb
            · obtain ⟨arr, ty, frr, gr, _⟩ := hb00.cells hk0
              refine (str_zero r.blk r0.blk o p fr w (sh := (ty, arr.size)) (by simp [World.shape?, gr]) g1).mono ?_
              rintro e w' ⟨rfl, hb⟩
              exact emptyOk hl0 w' hb
          · obtain ⟨t1, t2, _⟩ := hi.tyOk hsa hla hma hka hh hc0
            have hty8 : tyr = 5 := by
              have : tyC (bldN % 1000000) = 5 + 1 := by decide
              rw [hcty] at t1
              exact Nat.succ.inj (t1.trans this)
            subst hty8
            have ead2 : (⟨ra.blk, ra.base + 0 * ra.sz, none⟩ : Addr) = ⟨ra.blk, 0, none⟩ := by rw [t2, Nat.zero_mul]
            rw [ead2] at g1
            have hlen3 : l.length = len := by rw [hll, List.length_take, hlen2]; omega
            by_cases hl0 : l = []
            · have h00 : len = 0 := by rw [← hlen3, hl0]; rfl
              subst h00
              by_cases hcap : cap = 0
              · subst hcap
                refine (str_zero r.blk ra.blk 0 p fr w (sh := (5, arr.size)) (by simp [World.shape?, hh]) g1).mono ?_
                rintro e w' ⟨rfl, hb⟩
                exact emptyOk hl0 w' hb
              · refine (str_empty r.blk ra.blk 0 cap p fr w hcap g1).mono ?_
                rintro e w' ⟨rfl, hb⟩
                exact emptyOk hl0 w' hb
            · have hpos : 0 < len := by rw [← hlen3]; exact List.length_pos_iff.2 hl0
              have cellAt : ∀ (j : Nat) (x : UInt8), l[j]? = some x → arr[j]? = some (Value.int .u8 (x.toNat : Int)) ∧ ra.sz = 1 := by
                intro j x hx
                have h1 := hlc j x hx
                have hj : j < len := by rw [← hlen3]; exact (List.getElem?_eq_some_iff.1 hx).1
                rw [List.getElem?_take, if_pos hj] at h1
                obtain ⟨k1, k2⟩ := hcells j _ h1
                obtain ⟨u, hu, hv⟩ := k2 0 _ rfl
                have hz : ra.sz = 1 := k1.symm
                rw [t2, hz] at hu
                cases hv
                exact ⟨by simpa using hu, hz⟩
              obtain ⟨x0, hx0⟩ : ∃ x, l[0]? = some x := ⟨l[0]'(by omega), List.getElem?_eq_getElem (by omega)⟩
              have hz := (cellAt 0 x0 hx0).2
              have hct2 : cap ≤ ra.tot := by rw [t2, hz] at hct; omega
              refine (str_some r.blk ra.blk len cap p fr w l arr fra hlen3 hl0 (by omega) g1 hh (by omega) (by unfold bytes47 at h47; omega) (fun j x hx => (cellAt j x hx).1)).mono ?_
              rintro e w' ⟨rfl, rfl⟩
              obtain rfl := hfr hcw
              obtain ⟨fr', f1, f2, f3, f4, f5, f6⟩ := frz_heap w.drew ra.blk len hh
              obtain ⟨S', hxt⟩ := hi.freezeW hsa hla hcw hma hka hh f1 f2 f3 f4 f5 f6
              exact ⟨S', m, _, rfl, hxt, .str l⟩
      | _ => cases e4
  · cases e
end Go.Proofs.YthhpdnlfhofanaaGreatDoor
namespace Go.Proofs.YthhpdnlfhofanaaGreatDoor
open Go.RowKit
set_option linter.unusedVariables false
set_option linter.unusedSimpArgs false
theorem wpList_append_ok {P : Program} {w w' : World} {ops : Array Oper} {rest : List Oper} {o : Oper} {a : Act} {Q : Exit → Act → World → Prop} (hgd : o.guard = none) (s x : Operand) {t t' : TypeId}
    (ho : o.op = .call { callee := .builtin .append, args := #[s, x], argTypes := #[t, t'] }) {X Y y : Value} (hX : a.eval s = X) (hY : a.eval x = Y)
    (hr : (Builtin.append_ #[t, t'] o.type #[X, Y]).run P w = .ok y w') (h : wpList P ops Q rest (a.put o.dst y) w') : wpList P ops Q (o :: rest) a w :=
  wpList_plain hgd fun _ hK => by
    subst hX; subst hY
    unfold Oper.wp execOp
    simp only [ho, resolve, invoke, builtin, Sem.run_bind, Sem.run_pure, Result.andThen_ok, List.map_toArray, List.map_cons, List.map_nil, hr]
    exact hK _ _ h
def cloneOkB (P : Program) (el : TypeId) : Bool := match (P.info? el).bind (·.zero), szT P el, bytesT P el with
  | some zz, some z0, some b => Nat.beq zz.cells.size z0 && Nat.ble 1 z0 && Nat.ble 1 b
  | _, _, _ => false
theorem cloneOkB_spec {P : Program} {el : TypeId} (h : cloneOkB P el = true) : ∃ zz z0 b, (P.info? el).bind (·.zero) = some zz ∧ szT P el = some z0 ∧ zz.cells.size = z0 ∧ 1 ≤ z0 ∧ bytesT P el = some b ∧ 1 ≤ b := by
  unfold cloneOkB at h
  split at h
  · rename_i zz z0 b h1 h2 h3
    simp only [Bool.and_eq_true, Nat.beq_eq, Nat.ble_eq] at h
    exact ⟨zz, z0, b, h1, h2, h.1.1, h.1.2, h3, h.2⟩
  · cases h
/-- What cloneV's success says. -/
theorem cloneV_inv {P : Program} {C : Ctx} {m : Gh} {S : Nat → Prop} {h : Heap} {w : World} {site : Nat} {f : FuncId} {fn : Func} {t el : TypeId} {vs : List V} {q : V × Upd} {rr : List Nat} (hf : P.funcs[f]? = some fn) (hp : fn.params.toList.head? = some t)
    (hu : P.underlying t = some (.slice el)) (hok : cloneOkB P el = true) (e : cloneV P site f vs h = some (q, rr)) (hi : Inv C S m h w) {xs : List Value} (hx : RVs m S w vs xs) :
    hget h site = none ∧ ∃ A n c, xs = [.slice A n c] ∧ ((A = none → q = (.ref site 0 0 0, [(site, ⟨true, false, true, [], 0⟩)])) ∧
      ∀ w1 : World, Below w.heap.size w w1 → ∀ (A1 : Option Addr) (ty : TypeId), ∃ S' m' y w', (Builtin.append_ #[t, t] ty #[.slice A1 0 0, .slice A n c]).run P w1 = .ok y w' ∧ Ext C S m w S' m' (q.2 ++ h) w' ∧ RV m' S' w' q.1 y) := by
  obtain ⟨zz, z0, b', hzz, hz0, hzs, hz1, hb', hnb1⟩ := cloneOkB_spec hok
  unfold cloneV at e
  rw [hf] at e
  simp only [Option.bind_some, hp] at e
  rcases vs with _ | ⟨x, _ | ⟨x2, vs⟩⟩
  · cases e
  · simp only [hu] at e
    obtain ⟨X, xs', rfl, hX, hxs⟩ := hx.cons_inv
    obtain rfl := hxs.nil_inv
    have main : (do
        let n ← M.lift (bytesT P el)
        let z ← M.lift (szT P el)
        let es ← elemsOf x
        M.guard (Nat.ble 1 z && headOk z es && decide (es.length * n ≤ bytes47))
        pure (V.ref site 0 es.length es.length, ← newB site ⟨true, false, true, es, 0⟩) : M (V × Upd)) h = some (q, rr) := by
      cases x <;> first | exact e | cases e
    have hnot : ∀ s, x ≠ .str s := by rintro s rfl; cases e
    clear e
    obtain ⟨nb, r1, r2, e1, e2, _⟩ := M.inv_bind main
    obtain ⟨hnb, _⟩ := M.inv_lift e1
    obtain ⟨z, r3, r4, e3, e4, _⟩ := M.inv_bind e2
    obtain ⟨hz, _⟩ := M.inv_lift e3
    obtain ⟨es, r5, r6, e5, e6, _⟩ := M.inv_bind e4
    obtain ⟨_, r7, r8, e7, e8, _⟩ := M.inv_bind e6
    obtain ⟨hg, _⟩ := M.inv_guard e7
    obtain ⟨u, r9, r10, e9, e10, _⟩ := M.inv_bind e8
    obtain ⟨rfl, _⟩ := M.inv_pure e10
    obtain ⟨hs, rfl⟩ := inv_newB e9
    simp only [Bool.and_eq_true, decide_eq_true_eq] at hg
    refine ⟨hs, ?_⟩
    have ez : z = z0 := by rw [hz0] at hz; injection hz with hz; exact hz.symm
    subst ez
    have eb : nb = b' := by rw [hb'] at hnb; injection hnb with hnb; exact hnb.symm
    subst eb
    obtain ⟨i, hinf, hisz⟩ := szT_info hz0
    have hzz' : i.zero = some zz := by rw [hinf] at hzz; simpa using hzz
    have hib : i.bytes = nb := by unfold bytesT at hb'; rw [hinf] at hb'; simpa using hb'
    obtain ⟨A, n, c, rfl, hA⟩ : ∃ A n c, X = .slice A n c ∧ (A = none → es = []) := by
      unfold elemsOf at e5
      cases hX with
      | nils => exact ⟨_, _, _, rfl, fun _ => (M.inv_pure e5).1⟩
      | emp a => exact ⟨_, _, _, rfl, fun _ => (M.inv_pure e5).1⟩
      | lst0 a c => exact ⟨_, _, _, rfl, fun _ => (M.inv_pure e5).1⟩
      | lst xs b off z' c u _ _ _ _ _ _ => exact ⟨_, _, _, rfl, fun h => by cases h⟩
      | ref s off len cm cap r _ _ _ _ _ _ => exact ⟨_, _, _, rfl, fun h => by cases h⟩
      | refN s off r a _ _ =>
        refine ⟨_, _, _, rfl, fun _ => ?_⟩
        obtain ⟨b, q1, q2, g1, g2, _⟩ := M.inv_bind e5
        cases hb : b.box with
        | true => rw [hb] at g2; cases g2
        | false => rw [hb] at g2; exact (M.inv_pure g2).1.trans (by simp)
      | str s => exact absurd rfl (hnot s)
      | _ => cases e5
    refine ⟨A, n, c, rfl, fun h0 => ?_, fun w1 hw A1 ty => ?_⟩
    · obtain rfl := hA h0
      rfl
    · have hx1 := hi.quiet (fun b hb => hb) (quiet_inv hi.st hw)
      have he : appendV 0 site nb z .emp x h = some ((.ref site 0 es.length es.length, [(site, ⟨true, false, true, es, 0⟩)]), r5 ++ ([] ++ ([] ++ (r9 ++ [])))) := by
        unfold appendV
        refine M.of_bind e5 ?_
        refine M.of_bind (r1 := []) (M.of_guard hg.1.2) ?_
        simp only
        refine M.of_bind (r1 := []) (M.of_guard (by simpa using hg.2)) ?_
        exact M.of_bind e9 rfl
      obtain ⟨m', y, w', hr, hxt, hv⟩ := appendV_run (ty := ty) he hx1.inv (.inl rfl) hu (.inl ⟨_, hu⟩) hinf hisz hib hzz' hzs hz1 hnb1 (.emp A1) (hx1.rv _ _ hX)
      exact ⟨_, _, y, w', hr, hx1.trans hxt, hv⟩
  · cases e
end Go.Proofs.YthhpdnlfhofanaaGreatDoor
