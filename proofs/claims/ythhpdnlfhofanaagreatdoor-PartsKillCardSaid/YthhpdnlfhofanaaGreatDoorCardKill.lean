/- Writing kill to the control file of a process, by its user, has the effect of its exit with the status killed: 'PartsKill' returns true for every process table and every number of a process, and its arguments read as before. -/
import Derived.Test.YthhpdnlfhofanaaGreatDoorPkLaw
import Derived.Test.YthhpdnlfhofanaaGreatDoorEvE
import Derived.Test.YthhpdnlfhofanaaGreatDoorEvF
import Derived.Test.YthhpdnlfhofanaaGreatDoorJcPartsKill
import Derived.Test.YthhpdnlfhofanaaGreatDoorJgPartsKill
import Derived.Test.YthhpdnlfhofanaaGreatDoorTie
import Derived.Test.YthhpdnlfhofanaaGreatDoorCards
import Derived.ProofKit
import Derived.OpenShut
import Derived.ShutString
import Derived.ChangeOld
import Derived.Lib.SmallJoins
namespace Go.Proofs.YthhpdnlfhofanaaGreatDoor
open Go.ChangeShapes Go.WideShapes Go.ChangeAt Go.RowKit Go.Joins
open Go.ChangeMaps (open_string shut_string)
set_option linter.unusedSimpArgs false
set_option linter.unusedVariables false
set_option maxRecDepth 100000 in
theorem partsKill_lifted (os : Os) (started : os.Started) (H : Type) (enc : TypeId × Value → H) :
    ReturnsInHanded {} Tryz.checked os 4 .any (fun w args => (Rows.partsKillSpec.pre enc Tryz.prog Tryz.f4 [] false w args ∧ laidMetH Tryz.prog lay7 w) ∧ sizedMet enc Tryz.prog Tryz.f4 (OpenSpec.ofChange Rows.partsKillSpec) false w args)
      (Rows.partsKillSpec.post enc Tryz.prog Tryz.f4 false true false false) := by
  refine handed_and_shaped (C := Tryz.checked) (X := fun w _ => laidMetH Tryz.prog lay7 w) (fun _ _ _ hh h => h.of_heap hh) seatOwn started (by kernel_rfl) Tryz.func4
    (ChangeSpec.witness_shaped (enc := enc) (C := Tryz.checked) (os := os) (X := fun w _ => laidMetH Tryz.prog lay7 w) false (World.laidAll Tryz.prog os lay7) #[.agg #[.int .i64 0, .int .i64 0, .slice none 0 0], .int .i64 0] 8 (World.laidAll_os _ _ _)
      (World.shaped_of_ZipB (by kernel_rfl) (by kernel_rfl)) (by kernel_rfl) (by kernel_rfl) (by kernel_rfl)
      (by rw [MakeChecks.laidMetH_plain _ _ _ (by kernel_rfl)]; exact laidMet_laidAll _ (by kernel_rfl) (by kernel_rfl))) ?_
  intro W base args ds gs before hval0 hW hsz0 hL hsh
  rw [MakeChecks.laidMetH_plain _ _ _ (by kernel_rfl)] at hL
  obtain ⟨mx, hmx⟩ := mx_tab hsh
  let _ : MaxL := ⟨mx⟩
  obtain ⟨hgl, hew⟩ := laid_globP hL hmx
  have hval : ∀ (j : Nat) t v, Tryz.f4.params[j]? = some t → args[j]? = some v → Value.okWide Tryz.prog W .any base t v := hval0
  have hsz : (DataW.weightsEach Tryz.prog (Tryz.f4.params.toList ++ Rows.partsKillSpec.plain.varTypes Tryz.prog) (ds ++ gs)).all (· ≤ reachBytes) = true := hsz0
  have hW' := hW
  obtain ⟨p, q, hA0, hV, rfl, _, _⟩ := hW
  have hA : DataW.TrodAll enc Tryz.prog W 0 (fun _ => true) true Tryz.f4.params.toList args.toList ds p := hA0
  rw [Tryz.params4] at hA hval hsz
  obtain ⟨v0, vs0, d0, ds0, p0, q0, hargs0, rfl, rfl, h0, r0⟩ := trodAll_cons hA
  obtain ⟨v1, vs1, d1, ds1, p1, q1, hargs1, rfl, rfl, h1, r1⟩ := trodAll_cons r0
  obtain ⟨hargs, rfl, rfl⟩ := trodAll_nil r1
  obtain ⟨rfl, rfl⟩ := trodVars_none hV
  obtain ⟨us, hf, hr⟩ := args_open (k := 12) (ss := pkSh) (by kernel_rfl) hA (fun j t v ht hv => hval j t v (by simpa using ht) (by simpa using hv))
    (fun n hn => by
      rw [List.append_nil] at hsz
      have e0 : Rows.partsKillSpec.plain.varTypes Tryz.prog = [] := by kernel_rfl
      rw [e0, List.append_nil] at hsz
      simpa using List.all_eq_true.1 hsz n hn)
  obtain ⟨r, out, hev, rfl, rfl⟩ := kill_fits hf
  refine (eval_true mixedOk namesOk dstsOk cfgE_ok hev (w := W) (xs := args.toList) hr hgl hew).mono fun e W' ⟨he, hb⟩ => ?_
  subst he
  have hall : ([41, 3].all fun t => Tryz.prog.readableRec t && decide (t < Tryz.prog.types.size)) = true := by kernel_rfl
  refine ⟨_, rfl, _, _, _, [], _, [], hW', trodAll_mk1 (shut_bool Tryz.underlying4 _), args_stay (jf_laidOut) hb (fun t ht => ?_) hA, rfl, hb.frame _, fun h => by cases h⟩
  have := List.all_eq_true.1 hall t (by simpa using ht)
  simpa using this
theorem partsKill_holds : Rows.PartsKillSaid :=
  OpenClaim.holds_of_wide 4 Tryz.f4 rfl rfl rfl rfl rfl rfl rfl ⟨rfl, rfl, rfl, rfl, rfl⟩ rfl rfl rfl rfl rfl partsKill_fn Tryz.func4 partsKill_closed
    (of_decide_eq_true (by as_aux_lemma => kernel_rfl)) (by unfold Func.isWrapper; rw [if_neg (of_decide_eq_false (by kernel_rfl))]; exact ⟨rfl, rfl⟩)
    (fun os started H enc _ => partsKill_lifted os started H enc)
theorem partsKillCard_holds : Rows.PartsKillCardSaid :=
  Claim7.holds_tied_plain_at .later [] [.data, .data, .data, .data, .sentinel, .sentinel, .pinned] true (true, Rows.partsKillCard.stood.harness.2) true partsKill_holds (fun _ h => by cases h) partsKill_wf (fun _ h => by cases h) partsKill_row_tie rfl ⟨rfl, rfl⟩ jf_mainIs rfl
    (fun f fn hf hfn => by
      obtain rfl : f = 4 := Option.some.inj (partsKill_fn.symm.trans hf) |>.symm
      obtain rfl : fn = Tryz.f4 := (Option.some.inj (Tryz.func4.symm.trans hfn)).symm
      exact ⟨jf_looks, fun j t ht => by
        rw [Tryz.params4] at ht
        have hm : t ∈ [41, 3] := by simpa using Array.mem_of_getElem? ht
        have hall : ([41, 3].all fun u => !Tryz.prog.wantsStandIn u) = true := by kernel_rfl
        exact (show Tryz.prog.wantsStandIn t = false by simpa using List.all_eq_true.1 hall t hm)⟩)
    partsKill_goes
#print axioms partsKillCard_holds
end Go.Proofs.YthhpdnlfhofanaaGreatDoor
