/- Erasing as many bytes as were typed restores the line editor: 'EditErases' returns true for every line editor and text, and its arguments read as before. -/
import Derived.Test.YtdbbpibfejchfaaEdLaws
import Derived.Test.YtdbbpibfejchfaaEvF
import Derived.SizedLaws
import Derived.ProofKit
import Derived.OpenShut
import Derived.ShutString
import Derived.ChangeOld
import Derived.Lib.SmallJoins
namespace Go.Proofs.Ytdbbpibfejchfaa
open Go.ChangeShapes Go.WideShapes Go.ChangeAt Go.RowKit Go.Joins
open Go.ChangeMaps (open_string shut_string)
set_option linter.unusedSimpArgs false
set_option linter.unusedVariables false
set_option maxRecDepth 100000 in
theorem editErases_lifted (os : Os) (started : os.Started) (H : Type) (enc : TypeId × Value → H) :
    ReturnsInHanded {} Try.checked os 5 .any (Rows.editErasesSpec.pre6 enc Try.prog Try.f5 Rows.editErasesRow.domain false) (Rows.editErasesSpec.post enc Try.prog Try.f5 false true false false) := by
  refine returnsInHanded_of_change_sized (C := Try.checked) (show ownKnob Try.prog.godebug = none by kernel_rfl) started (by kernel_rfl) Try.func5
    (ChangeSpec.witness6 (enc := enc) (C := Try.checked) false ⟨#[], #[.agg #[.bool false, .string ⟨#[]⟩, .slice none 0 0], .string ⟨#[]⟩], []⟩ 8 (by kernel_rfl) (by kernel_rfl) (by kernel_rfl) (by kernel_rfl)) ?_
  intro W base args ds gs before hval0 hW hcnd0 hsz0 _
  have hgl : GlobR glT (fun _ => none) (· < W.heap.size) W := fun g cs e => by cases e
  have hew : ExW glT W := fun g cs e => by cases e
  have hval : ∀ (j : Nat) t v, Try.f5.params[j]? = some t → args[j]? = some v → Value.okWide Try.prog W .any base t v := hval0
  have hsz : (DataW.weightsEach Try.prog (Try.f5.params.toList ++ Rows.editErasesSpec.plain.varTypes Try.prog) (ds ++ gs)).all (· ≤ reachBytes) = true := hsz0
  have hW' := hW
  obtain ⟨p, q, hA0, hV, rfl, _, _⟩ := hW
  have hA : DataW.TrodAll enc Try.prog W 0 (fun _ => true) true Try.f5.params.toList args.toList ds p := hA0
  rw [Try.params5] at hA hval hsz
  obtain ⟨v0, vs0, d0, ds0, p0, q0, hargs0, rfl, rfl, h0, r0⟩ := trodAll_cons hA
  obtain ⟨v1, vs1, d1, ds1, p1, q1, hargs1, rfl, rfl, h1, r1⟩ := trodAll_cons r0
  obtain ⟨hargs, rfl, rfl⟩ := trodAll_nil r1
  obtain ⟨rfl, rfl⟩ := trodVars_none hV
  obtain ⟨us, hf, hr⟩ := args_open (k := 12) (ss := erasesSh) (by kernel_rfl) hA (fun j t v ht hv => hval j t v (by simpa using ht) (by simpa using hv))
    (fun n hn => by
      rw [List.append_nil] at hsz
      have e0 : Rows.editErasesSpec.plain.varTypes Try.prog = [] := by kernel_rfl
      rw [e0, List.append_nil] at hsz
      simpa using List.all_eq_true.1 hsz n hn)
  obtain ⟨r, out, hev, rfl, rfl⟩ := erases_fits hf
  refine (eval_true mixedOk namesOk dstsOk cfgN_ok hev (w := W) (xs := args.toList) hr hgl hew).mono fun e W' ⟨he, hb⟩ => ?_
  subst he
  have hall : ([24, 9].all fun t => Try.prog.readableRec t && decide (t < Try.prog.types.size)) = true := by kernel_rfl
  refine ⟨_, rfl, _, _, _, [], _, [], hW', trodAll_mk1 (shut_bool Try.underlying4 _), args_stay (show laidOutB Try.prog = true by kernel_rfl) hb (fun t ht => ?_) hA, rfl, hb.frame _, fun h => by cases h⟩
  have := List.all_eq_true.1 hall t (by simpa using ht)
  simpa using this
theorem editErases_holds : Rows.EditErasesSaid :=
  OpenClaim.holds_of_wide 5 Try.f5 rfl rfl rfl rfl rfl rfl rfl ⟨rfl, rfl, rfl, rfl, rfl⟩ rfl rfl rfl rfl rfl (by kernel_rfl) Try.func5 (by kernel_rfl)
    (of_decide_eq_true (by kernel_rfl)) (by unfold Func.isWrapper; rw [if_neg (of_decide_eq_false (by kernel_rfl))]; exact ⟨rfl, rfl⟩)
    (fun os started H enc _ => editErases_lifted os started H enc)
#print axioms editErases_holds
end Go.Proofs.Ytdbbpibfejchfaa
