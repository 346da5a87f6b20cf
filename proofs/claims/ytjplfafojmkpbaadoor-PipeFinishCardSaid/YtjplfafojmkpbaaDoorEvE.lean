/- Functions by their contracts, for the evaluator: what all have. -/
import Derived.Test.YtjplfafojmkpbaaDoorEvB
import Derived.Test.YtjplfafojmkpbaaDoorEvD
import Derived.Lib.LaidTab
import Derived.Test.YtjplfafojmkpbaaDoorShelf
import Derived.Stop.LaidErr
import Derived.MakeChecks
import Derived.Lay
import Derived.SizedLaws
import Derived.SevenTiedAt
import Derived.Below
import Derived.JoinedOf
import Derived.JoinedTies
import Derived.ChangeVars
import Derived.Test.YtjplfafojmkpbaaDoorEvC
namespace Go.Proofs.YtjplfafojmkpbaaDoor
open Go.RowKit
set_option linter.unusedVariables false
section
variable {P : Program} {S : Nat → Prop} {w w' : World}
theorem quiet_inv (hS : ∀ b, S b → b < w.heap.size) (hb : Below w.heap.size w w') : Inv ⟨w, S, fun _ => False, fun _ => False⟩ S (fun _ => none) [] w' :=
  ⟨hb.os, hb.tape, hb.output, hb.size, fun b h1 _ => hb.block b h1, (fun _ _ h => by cases h), (fun s b hs => by simp [hget] at hs), (fun s s' b b' r r' _ hs => by simp [hget] at hs), (fun s b r hs => by simp [hget] at hs),
    fun b h => Nat.lt_of_lt_of_le (hS b h) hb.size, fun _ h => .inl h, fun _ h => h⟩
/-- A function by the evaluator, with other knobs. -/
theorem prim_of_eval (hm : P.follows .mixedOrders = true) (hnames : NamesOk P) (hdsts : DstsOk P) {cfg : Cfg} (hcfg : CfgOk P cfg) {f : FuncId} {g : List V → Option (Bool × V)} {n : Nat} (h : ∀ vs r, g vs = some (true, r) → evalF P cfg n f vs [] = some (r, [])) : PrimOk P cfg.glob f g := by
  intro vs r hg S w xs hS hx hgl hew
  refine (eval_calls hm hnames hdsts hcfg (h vs r hg) hS hx hgl hew).mono ?_
  rintro e w' ⟨S', m', x, rfl, hi, hv⟩
  have hm' : m' = fun _ => none := by
    funext s
    cases hq : m' s with
    | none => rfl
    | some r =>
      obtain ⟨b, hb⟩ := hi.dom s r hq
      simp [enumB, hget] at hb
  subst hm'
  exact ⟨S', x, rfl, hi, hv⟩
theorem PrimOk.or {gl : Gl} {f : FuncId} {g g' : List V → Option (Bool × V)} (h : PrimOk P gl f g) (h' : PrimOk P gl f g') {g2 : List V → Option (Bool × V)} (e : ∀ vs r, g2 vs = some (true, r) → g vs = some (true, r) ∨ g' vs = some (true, r)) : PrimOk P gl f g2 := by
  intro vs r hr S w xs hS hx hgl hew
  rcases e vs r hr with h1 | h1
  · exact h h1 hS hx hgl hew
  · exact h' h1 hS hx hgl hew
theorem noCfg_ok {cfg : Cfg} (h1 : ∀ f, cfg.prim f = none) (h2 : ∀ f, cfg.self f = false) (h3 : ∀ f, cfg.clone f = false) (h4 : ∀ f, cfg.bstr f = false) : CfgOk P cfg :=
  ⟨fun f g e => (by rw [h1] at e; cases e), fun f e => (by rw [h2] at e; cases e), fun f e => (by rw [h3] at e; cases e), fun f e => (by rw [h4] at e; cases e)⟩
theorem tab_is {gl : Gl} (hg : GlobR gl (fun _ => none) S w) (he : ExW gl w) {g : Nat} {k : IntKind} {zs : List Int} (e : gl g = some (zs.map (V.int k))) {name : String} (hn : P.globalNamed name = some g) : Lib.TabIs P w name k zs := by
  obtain ⟨arr, t, fr, h1, h2⟩ := he g _ e
  have h3 := hg g _ e
  unfold Lib.TabIs World.var?
  rw [hn]
  simp only [Option.bind_some, h1]
  congr 1
  apply Array.ext
  · simpa using h2
  · intro i hi1 hi2
    have hiz : i < zs.length := by simpa using hi2
    cases h3 with
    | rptr _ _ _ off u g1 g2 g3 g4 =>
      have e1 : (zs.map (V.int k))[i]? = some (.int k zs[i]) := by simp [hiz]
      have h5 := g2 i _ e1
      have h6 := g4 i _ e1
      simp only [World.cell?, h1] at h5
      generalize u i = q at h5 h6
      cases h6
      have h7 : arr[i]? = some (Value.int k zs[i]) := by
        generalize Value.int k zs[i] = q at h5 ⊢
        simpa using h5
      rw [Array.getElem?_eq_getElem hi1] at h7
      injection h7 with h7
      rw [h7]
      simp
end
def inI64 (n : Int) : Bool := decide (-9223372036854775808 ≤ n) && decide (n ≤ 9223372036854775807)
theorem mixedOk : Tryd.prog.follows .mixedOrders = true := by kernel_rfl
theorem namesOk : NamesOk Tryd.prog := names_ok (by kernel_rfl)
theorem dstsOk : DstsOk Tryd.prog := dsts_ok (by kernel_rfl)
end Go.Proofs.YtjplfafojmkpbaaDoor
namespace Go.Proofs.YtjplfafojmkpbaaDoor
open Go.RowKit
set_option linter.unusedVariables false
def iaPrim : List V → Option (Bool × V)
  | [.int .i64 n] => some (inI64 n, .str (textN 10 n))
  | _ => none
theorem ia_prim : PrimOk Tryd.prog glT 51 iaPrim := by
  intro vs r h S w xs hS hx hgl hew
  unfold iaPrim at h
  split at h
  · rename_i n
    simp only [Option.some.injEq, Prod.mk.injEq] at h
    obtain ⟨hg, rfl⟩ := h
    simp only [inI64, Bool.and_eq_true, decide_eq_true_eq] at hg
    obtain ⟨h1, h2⟩ := hg
    obtain ⟨x0, xs0, rfl, g0, hx⟩ := hx.cons_inv
    obtain rfl := hx.nil_inv
    cases g0
    refine (Tryd.strconv_Itoa n h1 h2 w (tab_is (g := 0) (k := .u64) (zs := Lib.pow10Tab) hgl hew (by kernel_rfl) (by kernel_rfl))).mono ?_
    rintro e w' ⟨rfl, k, os, rfl⟩
    rw [itoa_textN (by omega)]
    refine ⟨S, _, rfl, quiet_inv hS ?_, ?_⟩
    · refine ⟨rfl, rfl, rfl, by simp [Sort.grow, World.drewN], fun b hb => ?_⟩
      simp only [Sort.grow, World.drewN]
      exact Array.getElem?_append_left hb
    · exact .str _
  · cases h
end Go.Proofs.YtjplfafojmkpbaaDoor
namespace Go.Proofs.YtjplfafojmkpbaaDoor
open Go.RowKit
section
variable {P : Program} {w : World}
theorem tab_glob {name : String} {k : IntKind} {zs : List Int} {g : Nat} (h : Lib.TabIs P w name k zs) (hn : P.globalNamed name = some g) :
    RV (fun _ => none) (· < w.heap.size) w (.rptr (zs.map (V.int k)) 0) (.pointer (some ⟨g, 0, none⟩)) ∧ ∃ arr t fr, w.heap[g]? = some (.cells arr t fr) ∧ arr.size = (zs.map (V.int k)).length := by
  unfold Lib.TabIs World.var? at h
  rw [hn] at h
  simp only [Option.bind_some] at h
  split at h
  · rename_i cs t fr hh
    injection h with h
    subst h
    refine ⟨?_, _, _, _, hh, by simp⟩
    have hlt : g < w.heap.size := by
      rcases Nat.lt_or_ge g w.heap.size with h' | h'
      · exact h'
      · simp [Array.getElem?_eq_none h'] at hh
    refine .rptr _ 0 g 0 (fun j => .int k (zs.getD j 0)) hlt (fun j v hv => ?_) (fun j v hv => ?_) (fun j v hv => ?_)
    · have hj : j < zs.length := by have := lt_of_get hv; simpa using this
      simp only [World.cell?, hh]
      simp [hj]
    · have hj : j < zs.length := by have := lt_of_get hv; simpa using this
      simp [hj] at hv
      subst hv; rfl
    · have hj : j < zs.length := by have := lt_of_get hv; simpa using this
      simp [hj] at hv
      subst hv
      simp [hj]
      exact .int _ _
  · cases h
end
theorem seatOwn : ownKnob Tryd.prog.godebug = none := by kernel_rfl
abbrev lay3 : List (String × DataW Unit) := [("math/bits.deBruijn32tab", Rows.laid_math_bits_deBruijn32tab), ("math/bits.deBruijn64tab", Rows.laid_math_bits_deBruijn64tab), ("internal/strconv.uint64pow10", Rows.laid_internal_strconv_uint64pow10)]
theorem laid_glob {W : World} (h : laidMet Tryd.prog lay3 W) : GlobR glT (fun _ => none) (· < W.heap.size) W ∧ ExW glT W := by
  have h1 : Lib.TabIs Tryd.prog W "math/bits.deBruijn64tab" .u8 tab64L := Lib.tabIs_of_head (g := 2) (t := 103) (e := 5) (n := 64) (by kernel_rfl) (by kernel_rfl) (by kernel_rfl) (by kernel_rfl) (by kernel_rfl) (by kernel_rfl) (h.tail)
  have h2 : Lib.TabIs Tryd.prog W "internal/strconv.uint64pow10" .u64 pow10L := Lib.tabIs_of_head (g := 0) (t := 95) (e := 88) (n := 20) (by kernel_rfl) (by kernel_rfl) (by kernel_rfl) (by kernel_rfl) (by kernel_rfl) (by kernel_rfl) (h.tail.tail)
  have g1 := tab_glob (g := 2) h1 (by kernel_rfl)
  have g2 := tab_glob (g := 0) h2 (by kernel_rfl)
  have key : ∀ (g : Nat) cs, glT g = some cs → (g = 2 ∧ cs = tab64L.map (V.int .u8)) ∨ (g = 0 ∧ cs = pow10L.map (V.int .u64)) := by
    intro g cs e
    unfold glT at e
    simp only [Bool.cond_eq_ite] at e
    split at e
    · rename_i hq
      injection e with e
      exact .inl ⟨Nat.eq_of_beq_eq_true hq, e.symm⟩
    · split at e
      · rename_i hq
        injection e with e
        exact .inr ⟨Nat.eq_of_beq_eq_true hq, e.symm⟩
      · cases e
  refine ⟨fun g cs e => ?_, fun g cs e => ?_⟩
  · rcases key g cs e with ⟨rfl, rfl⟩ | ⟨rfl, rfl⟩
    · exact g1.1
    · exact g2.1
  · rcases key g cs e with ⟨rfl, rfl⟩ | ⟨rfl, rfl⟩
    · exact g1.2
    · exact g2.2
end Go.Proofs.YtjplfafojmkpbaaDoor
namespace Go.Proofs.YtjplfafojmkpbaaDoor
open Go.RowKit
set_option linter.unusedVariables false
set_option linter.unusedSimpArgs false
theorem wpList_append_ok {P : Program} {w w' : World} {ops : Array Oper} {rest : List Oper} {o : Oper} {a : Act} {Q : Exit → Act → World → Prop} (hgd : o.guard = none) (s x : Operand) {t t' : TypeId}
    (ho : o.op = .call { callee := .builtin .append, args := #[s, x], argTypes := #[t, t'] }) {X Y y : Value} (hX : a.eval s = X) (hY : a.eval x = Y)
    (hr : (Builtin.append_ #[t, t'] o.type #[X, Y]).run P w = .ok y w') (h : wpList P ops Q rest (a.put o.dst y) w') : wpList P ops Q (o :: rest) a w :=
  wpList_plain hgd fun _ hK => by
    subst hX; subst hY
    unfold Oper.wp execOp
    simp only [ho, resolve, invoke, builtin, Sem.run_bind, Sem.run_pure, Result.andThen_ok, List.map_toArray, List.map_cons, List.map_nil, hr]
    exact hK _ _ h
def cloneOkB (P : Program) (el : TypeId) : Bool := match (P.info? el).bind (·.zero), szT P el, bytesT P el with
  | some zz, some z0, some b => Nat.beq zz.cells.size z0 && Nat.ble 1 z0 && Nat.ble 1 b
  | _, _, _ => false
theorem cloneOkB_spec {P : Program} {el : TypeId} (h : cloneOkB P el = true) : ∃ zz z0 b, (P.info? el).bind (·.zero) = some zz ∧ szT P el = some z0 ∧ zz.cells.size = z0 ∧ 1 ≤ z0 ∧ bytesT P el = some b ∧ 1 ≤ b := by
  unfold cloneOkB at h
  split at h
  · rename_i zz z0 b h1 h2 h3
    simp only [Bool.and_eq_true, Nat.beq_eq, Nat.ble_eq] at h
    exact ⟨zz, z0, b, h1, h2, h.1.1, h.1.2, h3, h.2⟩
  · cases h
/-- What cloneV's success says. -/
theorem cloneV_inv {P : Program} {C : Ctx} {m : Gh} {S : Nat → Prop} {h : Heap} {w : World} {site : Nat} {f : FuncId} {fn : Func} {t el : TypeId} {vs : List V} {q : V × Upd} {rr : List Nat} (hf : P.funcs[f]? = some fn) (hp : fn.params.toList.head? = some t)
    (hu : P.underlying t = some (.slice el)) (hok : cloneOkB P el = true) (e : cloneV P site f vs h = some (q, rr)) (hi : Inv C S m h w) {xs : List Value} (hx : RVs m S w vs xs) :
    hget h site = none ∧ ∃ A n c, xs = [.slice A n c] ∧ ((A = none → q = (.ref site 0 0 0, [(site, ⟨true, false, true, []⟩)])) ∧
      ∀ w1 : World, Below w.heap.size w w1 → ∀ (A1 : Option Addr) (ty : TypeId), ∃ S' m' y w', (Builtin.append_ #[t, t] ty #[.slice A1 0 0, .slice A n c]).run P w1 = .ok y w' ∧ Ext C S m w S' m' (q.2 ++ h) w' ∧ RV m' S' w' q.1 y) := by
  obtain ⟨zz, z0, b', hzz, hz0, hzs, hz1, hb', hnb1⟩ := cloneOkB_spec hok
  unfold cloneV at e
  rw [hf] at e
  simp only [Option.bind_some, hp] at e
  rcases vs with _ | ⟨x, _ | ⟨x2, vs⟩⟩
  · cases e
  · simp only [hu] at e
    obtain ⟨X, xs', rfl, hX, hxs⟩ := hx.cons_inv
    obtain rfl := hxs.nil_inv
    have main : (do
        let n ← M.lift (bytesT P el)
        let z ← M.lift (szT P el)
        let es ← elemsOf x
        M.guard (Nat.ble 1 z && headOk z es && decide (es.length * n ≤ bytes47))
        pure (V.ref site 0 es.length es.length, ← newB site ⟨true, false, true, es⟩) : M (V × Upd)) h = some (q, rr) := by
      cases x <;> first | exact e | cases e
    have hnot : ∀ s, x ≠ .str s := by rintro s rfl; cases e
    clear e
    obtain ⟨nb, r1, r2, e1, e2, _⟩ := M.inv_bind main
    obtain ⟨hnb, _⟩ := M.inv_lift e1
    obtain ⟨z, r3, r4, e3, e4, _⟩ := M.inv_bind e2
    obtain ⟨hz, _⟩ := M.inv_lift e3
    obtain ⟨es, r5, r6, e5, e6, _⟩ := M.inv_bind e4
    obtain ⟨_, r7, r8, e7, e8, _⟩ := M.inv_bind e6
    obtain ⟨hg, _⟩ := M.inv_guard e7
    obtain ⟨u, r9, r10, e9, e10, _⟩ := M.inv_bind e8
    obtain ⟨rfl, _⟩ := M.inv_pure e10
    obtain ⟨hs, rfl⟩ := inv_newB e9
    simp only [Bool.and_eq_true, decide_eq_true_eq] at hg
    refine ⟨hs, ?_⟩
    have ez : z = z0 := by rw [hz0] at hz; injection hz with hz; exact hz.symm
    subst ez
    have eb : nb = b' := by rw [hb'] at hnb; injection hnb with hnb; exact hnb.symm
    subst eb
    obtain ⟨i, hinf, hisz⟩ := szT_info hz0
    have hzz' : i.zero = some zz := by rw [hinf] at hzz; simpa using hzz
    have hib : i.bytes = nb := by unfold bytesT at hb'; rw [hinf] at hb'; simpa using hb'
    obtain ⟨A, n, c, rfl, hA⟩ : ∃ A n c, X = .slice A n c ∧ (A = none → es = []) := by
      unfold elemsOf at e5
      cases hX with
      | nils => exact ⟨_, _, _, rfl, fun _ => (M.inv_pure e5).1⟩
      | emp a => exact ⟨_, _, _, rfl, fun _ => (M.inv_pure e5).1⟩
      | lst0 a c => exact ⟨_, _, _, rfl, fun _ => (M.inv_pure e5).1⟩
      | lst xs b off z' c u _ _ _ _ _ _ => exact ⟨_, _, _, rfl, fun h => by cases h⟩
      | ref s off len cm cap r _ _ _ _ _ _ => exact ⟨_, _, _, rfl, fun h => by cases h⟩
      | refN s off r a _ =>
        refine ⟨_, _, _, rfl, fun _ => ?_⟩
        obtain ⟨b, q1, q2, g1, g2, _⟩ := M.inv_bind e5
        cases hb : b.box with
        | true => rw [hb] at g2; cases g2
        | false => rw [hb] at g2; exact (M.inv_pure g2).1.trans (by simp)
      | str s => exact absurd rfl (hnot s)
      | _ => cases e5
    refine ⟨A, n, c, rfl, fun h0 => ?_, fun w1 hw A1 ty => ?_⟩
    · obtain rfl := hA h0
      rfl
    · have hx1 := hi.quiet (fun b hb => hb) (quiet_inv hi.st hw)
      have he : appendV site nb z .emp x h = some ((.ref site 0 es.length es.length, [(site, ⟨true, false, true, es⟩)]), r5 ++ ([] ++ ([] ++ (r9 ++ [])))) := by
        unfold appendV
        refine M.of_bind e5 ?_
        refine M.of_bind (r1 := []) (M.of_guard hg.1.2) ?_
        simp only
        refine M.of_bind (r1 := []) (M.of_guard (by simpa using hg.2)) ?_
        exact M.of_bind e9 rfl
      obtain ⟨m', y, w', hr, hxt, hv⟩ := appendV_run (ty := ty) he hx1.inv hu (.inl ⟨_, hu⟩) hinf hisz hib hzz' hzs hz1 hnb1 (.emp A1) (hx1.rv _ _ hX)
      exact ⟨_, _, y, w', hr, hx1.trans hxt, hv⟩
  · cases e
end Go.Proofs.YtjplfafojmkpbaaDoor
namespace Go.Proofs.YtjplfafojmkpbaaDoor
open Go.RowKit
set_option linter.unusedVariables false
set_option maxHeartbeats 400000
set_option maxRecDepth 100000
theorem clone_pipe : SpecOk Tryd.prog 48 fun site vs => cloneV Tryd.prog site 48 vs := by
  intro C m S h w site vs q rr e hi xs hx
  obtain ⟨hs, A, n, c, rfl, h0, h1⟩ := cloneV_inv Tryd.func48 (t := 22) rfl Tryd.underlying22 (by kernel_rfl) e hi hx
  have hq := fun W => Lib.run_eql_slice_nil (P := Tryd.prog) W 22 65 A n c 0 0 Tryd.underlying22
  rcases A with _ | ad
  · obtain rfl := h0 rfl
    simp only [Option.isNone_none] at hq
    clear e hx h1
    obtain ⟨m', he, hv⟩ := phantom_ext hi hs 1 none
    go_enter Tryd.func48, Tryd.ntmps48
    go_wp2_with fail
    go_ret
    exact ⟨S, m', _, rfl, he, hv⟩
  · clear e hx h0
    simp only [Option.isNone_some] at hq
    obtain ⟨S', m', y, w', hr, hxt, hv⟩ := h1 (w.alloc (.cells #[] 65)) ((Below.refl _ _).alloc (Nat.le_refl _) _) (some ⟨w.heap.size, 0, none⟩) 22
    go_enter Tryd.func48, Tryd.ntmps48
    go_wp2_with (at_builtin; refine wpList_append_ok rfl _ _ rfl rfl rfl hr ?_)
    go_ret
    exact ⟨S', m', y, rfl, hxt, hv⟩

end Go.Proofs.YtjplfafojmkpbaaDoor
