/- Functions by their contracts, for the evaluator: what all have. -/
import Derived.Test.YtepehbbagbfmcaaEvB
import Derived.Test.YtepehbbagbfmcaaEvD
import Derived.Lib.LaidTab
import Derived.Test.YtepehbbagbfmcaaEvC
import Derived.Test.YtepehbbagbfmcaaShelf
namespace Go.Proofs.Ytepehbbagbfmcaa
open Go.RowKit
set_option linter.unusedVariables false
section
variable {P : Program} {S : Nat → Prop} {w w' : World}
theorem quiet_inv (hS : ∀ b, S b → b < w.heap.size) (hb : Below w.heap.size w w') : Inv ⟨w, S, fun _ => False, fun _ => False⟩ S (fun _ => none) [] w' :=
  ⟨hb.os, hb.tape, hb.output, hb.size, fun b h1 _ => hb.block b h1, (fun _ _ h => by cases h), (fun s b hs => by simp [hget] at hs), (fun s s' b b' r r' _ hs => by simp [hget] at hs), (fun s b r hs => by simp [hget] at hs),
    fun b h => Nat.lt_of_lt_of_le (hS b h) hb.size, fun _ h => .inl h, fun _ h => h⟩
/-- A function by the evaluator, with other knobs. -/
theorem prim_of_eval (hm : P.follows .mixedOrders = true) (hnames : NamesOk P) (hdsts : DstsOk P) {cfg : Cfg} (hcfg : CfgOk P cfg) {f : FuncId} {g : List V → Option (Bool × V)} {n : Nat} (h : ∀ vs r, g vs = some (true, r) → evalF P cfg n f vs [] = some (r, [])) : PrimOk P cfg.glob f g := by
  intro vs r hg S w xs hS hx hgl hew
  refine (eval_calls hm hnames hdsts hcfg (h vs r hg) hS hx hgl hew).mono ?_
  rintro e w' ⟨S', m', x, rfl, hi, hv⟩
  have hm' : m' = fun _ => none := by
    funext s
    cases hq : m' s with
    | none => rfl
    | some r =>
      obtain ⟨b, hb⟩ := hi.dom s r hq
      simp [enumB, hget] at hb
  subst hm'
  exact ⟨S', x, rfl, hi, hv⟩
theorem PrimOk.or {gl : Gl} {f : FuncId} {g g' : List V → Option (Bool × V)} (h : PrimOk P gl f g) (h' : PrimOk P gl f g') {g2 : List V → Option (Bool × V)} (e : ∀ vs r, g2 vs = some (true, r) → g vs = some (true, r) ∨ g' vs = some (true, r)) : PrimOk P gl f g2 := by
  intro vs r hr S w xs hS hx hgl hew
  rcases e vs r hr with h1 | h1
  · exact h h1 hS hx hgl hew
  · exact h' h1 hS hx hgl hew
theorem noCfg_ok {cfg : Cfg} (h1 : ∀ f, cfg.prim f = none) (h2 : ∀ f, cfg.self f = false) (h3 : ∀ f, cfg.clone f = false) (h4 : ∀ f, cfg.bstr f = false) : CfgOk P cfg :=
  ⟨fun f g e => (by rw [h1] at e; cases e), fun f e => (by rw [h2] at e; cases e), fun f e => (by rw [h3] at e; cases e), fun f e => (by rw [h4] at e; cases e)⟩
theorem tab_is {gl : Gl} (hg : GlobR gl (fun _ => none) S w) (he : ExW gl w) {g : Nat} {k : IntKind} {zs : List Int} (e : gl g = some (zs.map (V.int k))) {name : String} (hn : P.globalNamed name = some g) : Lib.TabIs P w name k zs := by
  obtain ⟨arr, t, fr, h1, h2⟩ := he g _ e
  have h3 := hg g _ e
  unfold Lib.TabIs World.var?
  rw [hn]
  simp only [Option.bind_some, h1]
  congr 1
  apply Array.ext
  · simpa using h2
  · intro i hi1 hi2
    have hiz : i < zs.length := by simpa using hi2
    cases h3 with
    | rptr _ _ _ off u g1 g2 g3 g4 =>
      have e1 : (zs.map (V.int k))[i]? = some (.int k zs[i]) := by simp [hiz]
      have h5 := g2 i _ e1
      have h6 := g4 i _ e1
      simp only [World.cell?, h1] at h5
      generalize u i = q at h5 h6
      cases h6
      have h7 : arr[i]? = some (Value.int k zs[i]) := by
        generalize Value.int k zs[i] = q at h5 ⊢
        simpa using h5
      rw [Array.getElem?_eq_getElem hi1] at h7
      injection h7 with h7
      rw [h7]
      simp
end
def inI64 (n : Int) : Bool := decide (-9223372036854775808 ≤ n) && decide (n ≤ 9223372036854775807)
theorem mixedOk : Try.prog.follows .mixedOrders = true := by kernel_rfl
theorem namesOk : NamesOk Try.prog := names_ok (by kernel_rfl)
theorem dstsOk : DstsOk Try.prog := dsts_ok (by kernel_rfl)
end Go.Proofs.Ytepehbbagbfmcaa
namespace Go.Proofs.Ytepehbbagbfmcaa
open Go.RowKit
set_option linter.unusedVariables false
def repPrim : List V → Option (Bool × V)
  | [.str s, .int .i64 c] => some (andB (andB (leI 0 c) (leI c 9223372036854775807)) (leN (s.length * c.toNat) 140737488355328), .str (Lib.repeatL s c.toNat))
  | _ => none
theorem rep_prim (gl : Gl) : PrimOk Try.prog gl 66 repPrim := by
  intro vs r h S w xs hS hx hgl hew
  unfold repPrim at h
  split at h
  · rename_i s c
    simp only [Option.some.injEq, Prod.mk.injEq] at h
    obtain ⟨hg, rfl⟩ := h
    simp only [andB, leI, leN, Bool.and_eq_true, decide_eq_true_eq] at hg
    obtain ⟨⟨h1, h2⟩, h3⟩ := hg
    obtain ⟨x0, xs0, rfl, g0, hx⟩ := hx.cons_inv
    obtain ⟨x1, xs1, rfl, g1, hx⟩ := hx.cons_inv
    obtain rfl := hx.nil_inv
    cases g0
    cases g1
    have := Try.strings_Repeat ⟨⟨s⟩⟩ c.toNat w (by omega) (by simpa [ByteArray.size] using h3)
    rw [Int.toNat_of_nonneg h1] at this
    refine this.mono ?_
    rintro e w' ⟨rfl, hb⟩
    exact ⟨S, _, rfl, quiet_inv hS hb, .str _⟩
  · cases h
end Go.Proofs.Ytepehbbagbfmcaa
