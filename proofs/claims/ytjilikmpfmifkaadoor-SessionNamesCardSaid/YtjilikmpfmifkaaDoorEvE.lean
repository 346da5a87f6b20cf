/- Library functions by their contracts, for the evaluator. -/
import Derived.Test.YtjilikmpfmifkaaDoorEvD
import Derived.Test.YtjilikmpfmifkaaDoorEvB
import Derived.Test.YtjilikmpfmifkaaDoorShelf
import Derived.Lib.LaidTab
import Derived.Stop.LaidErr
import Derived.MakeChecks
import Derived.Lay
import Derived.SizedLaws
import Derived.SevenTiedAt
import Derived.Below
import Derived.JoinedOf
import Derived.JoinedTies
import Derived.ChangeVars
namespace Go.Proofs.YtjilikmpfmifkaaDoor
open Go.RowKit
set_option linter.unusedVariables false
section
variable {P : Program} {S : Nat → Prop} {w w' : World}
theorem quiet_inv (hS : ∀ b, S b → b < w.heap.size) (hb : Below w.heap.size w w') : Inv ⟨w, S, fun _ => False, fun _ => False⟩ S (fun _ => none) [] w' :=
  ⟨hb.os, hb.tape, hb.output, hb.size, fun b h1 _ => hb.block b h1, (fun _ _ h => by cases h), (fun s b hs => by simp [hget] at hs), (fun s s' b b' r r' _ hs => by simp [hget] at hs), (fun s b r hs => by simp [hget] at hs),
    fun b h => Nat.lt_of_lt_of_le (hS b h) hb.size, fun _ h => .inl h, fun _ h => h⟩
/-- A function by the evaluator, with other knobs. -/
theorem prim_of_eval (hm : P.follows .mixedOrders = true) (hnames : NamesOk P) (hdsts : DstsOk P) {cfg : Cfg} (hcfg : CfgOk P cfg) {f : FuncId} {g : List V → Option (Bool × V)} {n : Nat} (h : ∀ vs r, g vs = some (true, r) → evalF P cfg n f vs [] = some (r, [])) : PrimOk P cfg.glob f g := by
  intro vs r hg S w xs hS hx hgl hew
  refine (eval_calls hm hnames hdsts hcfg (h vs r hg) hS hx hgl hew).mono ?_
  rintro e w' ⟨S', m', x, rfl, hi, hv⟩
  have hm' : m' = fun _ => none := by
    funext s
    cases hq : m' s with
    | none => rfl
    | some r =>
      obtain ⟨b, hb⟩ := hi.dom s r hq
      simp [enumB, hget] at hb
  subst hm'
  exact ⟨S', x, rfl, hi, hv⟩
theorem PrimOk.or {gl : Gl} {f : FuncId} {g g' : List V → Option (Bool × V)} (h : PrimOk P gl f g) (h' : PrimOk P gl f g') {g2 : List V → Option (Bool × V)} (e : ∀ vs r, g2 vs = some (true, r) → g vs = some (true, r) ∨ g' vs = some (true, r)) : PrimOk P gl f g2 := by
  intro vs r hr S w xs hS hx hgl hew
  rcases e vs r hr with h1 | h1
  · exact h h1 hS hx hgl hew
  · exact h' h1 hS hx hgl hew
theorem noCfg_ok {cfg : Cfg} (h1 : ∀ f, cfg.prim f = none) (h2 : ∀ f, cfg.self f = false) (h3 : ∀ f, cfg.clone f = false) (h4 : ∀ f, cfg.bstr f = false) : CfgOk P cfg :=
  ⟨fun f g e => (by rw [h1] at e; cases e), fun f e => (by rw [h2] at e; cases e), fun f e => (by rw [h3] at e; cases e), fun f e => (by rw [h4] at e; cases e)⟩
theorem tab_is {gl : Gl} (hg : GlobR gl (fun _ => none) S w) (he : ExW gl w) {g : Nat} {k : IntKind} {zs : List Int} (e : gl g = some (zs.map (V.int k))) {name : String} (hn : P.globalNamed name = some g) : Lib.TabIs P w name k zs := by
  obtain ⟨arr, t, fr, h1, h2⟩ := he g _ e
  have h3 := hg g _ e
  unfold Lib.TabIs World.var?
  rw [hn]
  simp only [Option.bind_some, h1]
  congr 1
  apply Array.ext
  · simpa using h2
  · intro i hi1 hi2
    have hiz : i < zs.length := by simpa using hi2
    cases h3 with
    | rptr _ _ _ off u g1 g2 g3 g4 =>
      have e1 : (zs.map (V.int k))[i]? = some (.int k zs[i]) := by simp [hiz]
      have h5 := g2 i _ e1
      have h6 := g4 i _ e1
      simp only [World.cell?, h1] at h5
      generalize u i = q at h5 h6
      cases h6
      have h7 : arr[i]? = some (Value.int k zs[i]) := by
        generalize Value.int k zs[i] = q at h5 ⊢
        simpa using h5
      rw [Array.getElem?_eq_getElem hi1] at h7
      injection h7 with h7
      rw [h7]
      simp
end
def inI64 (n : Int) : Bool := decide (-9223372036854775808 ≤ n) && decide (n ≤ 9223372036854775807)
def fiPrim : List V → Option (Bool × V)
  | [.int .i64 n, .int .i64 b] => some (andB (inI64 n) (orB (orB (eqI b 8) (eqI b 16)) (eqI b 10)), .str (textN b.toNat n))
  | _ => none
def fiPrim8 : List V → Option (Bool × V)
  | [.int .i64 n, .int .i64 b] => some (andB (inI64 n) (orB (eqI b 8) (eqI b 16)), .str (textN b.toNat n))
  | _ => none
def fiPrim10 : List V → Option (Bool × V)
  | [.int .i64 n, .int .i64 b] => some (andB (inI64 n) (eqI b 10), .str (textN b.toNat n))
  | _ => none
theorem mixedOk : Tryd.prog.follows .mixedOrders = true := by kernel_rfl
theorem namesOk : NamesOk Tryd.prog := names_ok (by kernel_rfl)
theorem dstsOk : DstsOk Tryd.prog := dsts_ok (by kernel_rfl)
theorem fi_prim : PrimOk Tryd.prog glT 44 fiPrim := by
  refine PrimOk.or (g := fiPrim8) (g' := fiPrim10) (@prim_of_eval _ mixedOk namesOk dstsOk cfgF (noCfg_ok (fun _ => rfl) (fun _ => rfl) (fun _ => rfl) (fun _ => rfl)) _ _ 5 ?_) ?_ ?_
  · intro vs r h
    unfold fiPrim8 at h
    split at h
    · rename_i n b
      simp only [Option.some.injEq, Prod.mk.injEq] at h
      obtain ⟨hg, rfl⟩ := h
      simp only [inI64, andB, orB, eqI, Bool.and_eq_true, Bool.or_eq_true, decide_eq_true_eq] at hg
      obtain ⟨⟨h1, h2⟩, h3⟩ := hg
      have := fi_run (n := 5) (by omega) h1 h2 (B := b.toNat) (by omega)
      rwa [Int.toNat_of_nonneg (by omega)] at this
    · cases h
  · intro vs r h S w xs hS hx hgl hew
    unfold fiPrim10 at h
    split at h
    · rename_i n b
      simp only [Option.some.injEq, Prod.mk.injEq] at h
      obtain ⟨hg, rfl⟩ := h
      simp only [inI64, andB, eqI, Bool.and_eq_true, decide_eq_true_eq] at hg
      obtain ⟨⟨h1, h2⟩, rfl⟩ := hg
      obtain ⟨x0, xs0, rfl, g0, hx⟩ := hx.cons_inv
      obtain ⟨x1, xs1, rfl, g1, hx⟩ := hx.cons_inv
      obtain rfl := hx.nil_inv
      cases g0
      cases g1
      refine (Tryd.strconv_FormatInt_10 n h1 h2 w (tab_is (g := 0) (k := .u64) (zs := Lib.pow10Tab) hgl hew (by kernel_rfl) (by kernel_rfl))).mono ?_
      rintro e w' ⟨rfl, k, os, rfl⟩
      rw [itoa_textN (by omega)]
      refine ⟨S, _, rfl, quiet_inv hS ?_, ?_⟩
      · refine ⟨rfl, rfl, rfl, by simp [Sort.grow, World.drewN], fun b hb => ?_⟩
        simp only [Sort.grow, World.drewN]
        exact Array.getElem?_append_left hb
      · exact .str _
    · cases h
  · intro vs r h
    unfold fiPrim at h
    split at h
    · rename_i n b
      simp only [Option.some.injEq, Prod.mk.injEq] at h
      obtain ⟨hg, rfl⟩ := h
      simp only [andB, orB, Bool.and_eq_true, Bool.or_eq_true] at hg
      obtain ⟨h1, h2⟩ := hg
      rcases h2 with h2 | h2
      · left; simp [fiPrim8, andB, orB, h1, h2]
      · right; simp [fiPrim10, andB, h1, h2]
    · cases h
end Go.Proofs.YtjilikmpfmifkaaDoor
namespace Go.Proofs.YtjilikmpfmifkaaDoor
open Go.RowKit
set_option linter.unusedVariables false
def hpPrim : List V → Option (Bool × V)
  | [.str s, .str p] => some (true, .bool (Lib.hasPrefix s p))
  | _ => none
theorem hp_prim (gl : Gl) : PrimOk Tryd.prog gl 38 hpPrim := by
  intro vs r h S w xs hS hx hgl hew
  unfold hpPrim at h
  split at h
  · rename_i s p
    simp only [Option.some.injEq, Prod.mk.injEq] at h
    obtain ⟨_, rfl⟩ := h
    obtain ⟨x0, xs0, rfl, g0, hx⟩ := hx.cons_inv
    obtain ⟨x1, xs1, rfl, g1, hx⟩ := hx.cons_inv
    obtain rfl := hx.nil_inv
    cases g0
    cases g1
    refine (Tryd.strings_HasPrefix ⟨⟨s⟩⟩ ⟨⟨p⟩⟩ w).mono ?_
    rintro e w' ⟨rfl, rfl⟩
    exact ⟨S, _, rfl, quiet_inv hS (Below.refl _ _), .bool _⟩
  · cases h
end Go.Proofs.YtjilikmpfmifkaaDoor
namespace Go.Proofs.YtjilikmpfmifkaaDoor
open Go.RowKit
section
variable {P : Program} {w : World}
theorem tab_glob {name : String} {k : IntKind} {zs : List Int} {g : Nat} (h : Lib.TabIs P w name k zs) (hn : P.globalNamed name = some g) :
    RV (fun _ => none) (· < w.heap.size) w (.rptr (zs.map (V.int k)) 0) (.pointer (some ⟨g, 0, none⟩)) ∧ ∃ arr t fr, w.heap[g]? = some (.cells arr t fr) ∧ arr.size = (zs.map (V.int k)).length := by
  unfold Lib.TabIs World.var? at h
  rw [hn] at h
  simp only [Option.bind_some] at h
  split at h
  · rename_i cs t fr hh
    injection h with h
    subst h
    refine ⟨?_, _, _, _, hh, by simp⟩
    have hlt : g < w.heap.size := by
      rcases Nat.lt_or_ge g w.heap.size with h' | h'
      · exact h'
      · simp [Array.getElem?_eq_none h'] at hh
    refine .rptr _ 0 g 0 (fun j => .int k (zs.getD j 0)) hlt (fun j v hv => ?_) (fun j v hv => ?_) (fun j v hv => ?_)
    · have hj : j < zs.length := by have := lt_of_get hv; simpa using this
      simp only [World.cell?, hh]
      simp [hj]
    · have hj : j < zs.length := by have := lt_of_get hv; simpa using this
      simp [hj] at hv
      subst hv; rfl
    · have hj : j < zs.length := by have := lt_of_get hv; simpa using this
      simp [hj] at hv
      subst hv
      simp [hj]
      exact .int _ _
  · cases h
end
theorem seatOwn : ownKnob Tryd.prog.godebug = none := by kernel_rfl
abbrev lay3 : List (String × DataW Unit) := [("math/bits.deBruijn32tab", Rows.laid_math_bits_deBruijn32tab), ("math/bits.deBruijn64tab", Rows.laid_math_bits_deBruijn64tab), ("internal/strconv.uint64pow10", Rows.laid_internal_strconv_uint64pow10)]
theorem laid_glob {W : World} (h : laidMet Tryd.prog lay3 W) : GlobR glT (fun _ => none) (· < W.heap.size) W ∧ ExW glT W := by
  have h1 : Lib.TabIs Tryd.prog W "math/bits.deBruijn64tab" .u8 tab64L := Lib.tabIs_of_head (g := 2) (t := 77) (e := 5) (n := 64) (by kernel_rfl) (by kernel_rfl) (by kernel_rfl) (by kernel_rfl) (by kernel_rfl) (by kernel_rfl) (h.tail)
  have h2 : Lib.TabIs Tryd.prog W "internal/strconv.uint64pow10" .u64 pow10L := Lib.tabIs_of_head (g := 0) (t := 70) (e := 62) (n := 20) (by kernel_rfl) (by kernel_rfl) (by kernel_rfl) (by kernel_rfl) (by kernel_rfl) (by kernel_rfl) (h.tail.tail)
  have g1 := tab_glob (g := 2) h1 (by kernel_rfl)
  have g2 := tab_glob (g := 0) h2 (by kernel_rfl)
  have key : ∀ (g : Nat) cs, glT g = some cs → (g = 2 ∧ cs = tab64L.map (V.int .u8)) ∨ (g = 0 ∧ cs = pow10L.map (V.int .u64)) := by
    intro g cs e
    unfold glT at e
    simp only [Bool.cond_eq_ite] at e
    split at e
    · rename_i hq
      injection e with e
      exact .inl ⟨Nat.eq_of_beq_eq_true hq, e.symm⟩
    · split at e
      · rename_i hq
        injection e with e
        exact .inr ⟨Nat.eq_of_beq_eq_true hq, e.symm⟩
      · cases e
  refine ⟨fun g cs e => ?_, fun g cs e => ?_⟩
  · rcases key g cs e with ⟨rfl, rfl⟩ | ⟨rfl, rfl⟩
    · exact g1.1
    · exact g2.1
  · rcases key g cs e with ⟨rfl, rfl⟩ | ⟨rfl, rfl⟩
    · exact g1.2
    · exact g2.2
end Go.Proofs.YtjilikmpfmifkaaDoor
