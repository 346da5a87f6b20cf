/- The evaluator's knobs for this program. -/
import Derived.Test.YthhpdnlfhofanaaGreatDoorEvE
import Derived.Test.YthhpdnlfhofanaaGreatDoorEvC
namespace Go.Proofs.YthhpdnlfhofanaaGreatDoor
open Go.RowKit
set_option linter.unusedVariables false
set_option maxHeartbeats 400000
set_option maxRecDepth 100000
theorem clone_str : SpecOk Tryz.prog 62 fun site vs => ownV Tryz.prog site 62 vs := by
  intro C m S h w site vs q rr e hi xs hx
  have e := own_clone Tryz.func62 rfl e
  obtain ⟨hs, A, n, c, rfl, h0, h1⟩ := cloneV_inv Tryz.func62 (t := 30) rfl Tryz.underlying30 (by kernel_rfl) e hi hx
  have hq := fun W => Lib.run_eql_slice_nil (P := Tryz.prog) W 30 9 A n c 0 0 Tryz.underlying30
  rcases A with _ | ad
  · obtain rfl := h0 rfl
    simp only [Option.isNone_none] at hq
    clear e hx h1
    obtain ⟨m', he, hv⟩ := phantom_ext hi hs 1 none 0 (fun h => absurd rfl h)
    go_enter Tryz.func62, Tryz.ntmps62
    go_wp2_with fail
    go_ret
    exact ⟨S, m', _, rfl, he, hv⟩
  · clear e hx h0
    simp only [Option.isNone_some] at hq
    obtain ⟨S', m', y, w', hr, hxt, hv⟩ := h1 (w.alloc (.cells #[] 9)) ((Below.refl _ _).alloc (Nat.le_refl _) _) (some ⟨w.heap.size, 0, none⟩) 30
    go_enter Tryz.func62, Tryz.ntmps62
    go_wp2_with (at_builtin; refine wpList_append_ok rfl _ _ rfl rfl rfl hr ?_)
    go_ret
    exact ⟨S', m', y, rfl, hxt, hv⟩

theorem clone_win : SpecOk Tryz.prog 111 fun site vs => ownV Tryz.prog site 111 vs := by
  intro C m S h w site vs q rr e hi xs hx
  have e := own_clone Tryz.func111 rfl e
  obtain ⟨hs, A, n, c, rfl, h0, h1⟩ := cloneV_inv Tryz.func111 (t := 23) rfl Tryz.underlying23 (by kernel_rfl) e hi hx
  have hq := fun W => Lib.run_eql_slice_nil (P := Tryz.prog) W 23 37 A n c 0 0 Tryz.underlying23
  rcases A with _ | ad
  · obtain rfl := h0 rfl
    simp only [Option.isNone_none] at hq
    clear e hx h1
    obtain ⟨m', he, hv⟩ := phantom_ext hi hs 1 none 0 (fun h => absurd rfl h)
    go_enter Tryz.func111, Tryz.ntmps111
    go_wp2_with fail
    go_ret
    exact ⟨S, m', _, rfl, he, hv⟩
  · clear e hx h0
    simp only [Option.isNone_some] at hq
    obtain ⟨S', m', y, w', hr, hxt, hv⟩ := h1 (w.alloc (.cells #[] 37)) ((Below.refl _ _).alloc (Nat.le_refl _) _) (some ⟨w.heap.size, 0, none⟩) 23
    go_enter Tryz.func111, Tryz.ntmps111
    go_wp2_with (at_builtin; refine wpList_append_ok rfl _ _ rfl rfl rfl hr ?_)
    go_ret
    exact ⟨S', m', y, rfl, hxt, hv⟩

theorem clone_int : SpecOk Tryz.prog 184 fun site vs => ownV Tryz.prog site 184 vs := by
  intro C m S h w site vs q rr e hi xs hx
  have e := own_clone Tryz.func184 rfl e
  obtain ⟨hs, A, n, c, rfl, h0, h1⟩ := cloneV_inv Tryz.func184 (t := 89) rfl Tryz.underlying89 (by kernel_rfl) e hi hx
  have hq := fun W => Lib.run_eql_slice_nil (P := Tryz.prog) W 89 3 A n c 0 0 Tryz.underlying89
  rcases A with _ | ad
  · obtain rfl := h0 rfl
    simp only [Option.isNone_none] at hq
    clear e hx h1
    obtain ⟨m', he, hv⟩ := phantom_ext hi hs 1 none 0 (fun h => absurd rfl h)
    go_enter Tryz.func184, Tryz.ntmps184
    go_wp2_with fail
    go_ret
    exact ⟨S, m', _, rfl, he, hv⟩
  · clear e hx h0
    simp only [Option.isNone_some] at hq
    obtain ⟨S', m', y, w', hr, hxt, hv⟩ := h1 (w.alloc (.cells #[] 3)) ((Below.refl _ _).alloc (Nat.le_refl _) _) (some ⟨w.heap.size, 0, none⟩) 89
    go_enter Tryz.func184, Tryz.ntmps184
    go_wp2_with (at_builtin; refine wpList_append_ok rfl _ _ rfl rfl rfl hr ?_)
    go_ret
    exact ⟨S', m', y, rfl, hxt, hv⟩

theorem clone_qid : SpecOk Tryz.prog 187 fun site vs => ownV Tryz.prog site 187 vs := by
  intro C m S h w site vs q rr e hi xs hx
  have e := own_clone Tryz.func187 rfl e
  obtain ⟨hs, A, n, c, rfl, h0, h1⟩ := cloneV_inv Tryz.func187 (t := 96) rfl Tryz.underlying96 (by kernel_rfl) e hi hx
  have hq := fun W => Lib.run_eql_slice_nil (P := Tryz.prog) W 96 98 A n c 0 0 Tryz.underlying96
  rcases A with _ | ad
  · obtain rfl := h0 rfl
    simp only [Option.isNone_none] at hq
    clear e hx h1
    obtain ⟨m', he, hv⟩ := phantom_ext hi hs 1 none 0 (fun h => absurd rfl h)
    go_enter Tryz.func187, Tryz.ntmps187
    go_wp2_with fail
    go_ret
    exact ⟨S, m', _, rfl, he, hv⟩
  · clear e hx h0
    simp only [Option.isNone_some] at hq
    obtain ⟨S', m', y, w', hr, hxt, hv⟩ := h1 (w.alloc (.cells #[] 98)) ((Below.refl _ _).alloc (Nat.le_refl _) _) (some ⟨w.heap.size, 0, none⟩) 96
    go_enter Tryz.func187, Tryz.ntmps187
    go_wp2_with (at_builtin; refine wpList_append_ok rfl _ _ rfl rfl rfl hr ?_)
    go_ret
    exact ⟨S', m', y, rfl, hxt, hv⟩

theorem clone_lea : SpecOk Tryz.prog 80 fun site vs => ownV Tryz.prog site 80 vs := by
  intro C m S h w site vs q rr e hi xs hx
  have e := own_clone Tryz.func80 rfl e
  obtain ⟨hs, A, n, c, rfl, h0, h1⟩ := cloneV_inv Tryz.func80 (t := 69) rfl Tryz.underlying69 (by kernel_rfl) e hi hx
  have hq := fun W => Lib.run_eql_slice_nil (P := Tryz.prog) W 69 164 A n c 0 0 Tryz.underlying69
  rcases A with _ | ad
  · obtain rfl := h0 rfl
    simp only [Option.isNone_none] at hq
    clear e hx h1
    obtain ⟨m', he, hv⟩ := phantom_ext hi hs 1 none 0 (fun h => absurd rfl h)
    go_enter Tryz.func80, Tryz.ntmps80
    go_wp2_with fail
    go_ret
    exact ⟨S, m', _, rfl, he, hv⟩
  · clear e hx h0
    simp only [Option.isNone_some] at hq
    obtain ⟨S', m', y, w', hr, hxt, hv⟩ := h1 (w.alloc (.cells #[] 164)) ((Below.refl _ _).alloc (Nat.le_refl _) _) (some ⟨w.heap.size, 0, none⟩) 69
    go_enter Tryz.func80, Tryz.ntmps80
    go_wp2_with (at_builtin; refine wpList_append_ok rfl _ _ rfl rfl rfl hr ?_)
    go_ret
    exact ⟨S', m', y, rfl, hxt, hv⟩

theorem clone_pie : SpecOk Tryz.prog 161 fun site vs => ownV Tryz.prog site 161 vs := by
  intro C m S h w site vs q rr e hi xs hx
  have e := own_clone Tryz.func161 rfl e
  obtain ⟨hs, A, n, c, rfl, h0, h1⟩ := cloneV_inv Tryz.func161 (t := 74) rfl Tryz.underlying74 (by kernel_rfl) e hi hx
  have hq := fun W => Lib.run_eql_slice_nil (P := Tryz.prog) W 74 241 A n c 0 0 Tryz.underlying74
  rcases A with _ | ad
  · obtain rfl := h0 rfl
    simp only [Option.isNone_none] at hq
    clear e hx h1
    obtain ⟨m', he, hv⟩ := phantom_ext hi hs 1 none 0 (fun h => absurd rfl h)
    go_enter Tryz.func161, Tryz.ntmps161
    go_wp2_with fail
    go_ret
    exact ⟨S, m', _, rfl, he, hv⟩
  · clear e hx h0
    simp only [Option.isNone_some] at hq
    obtain ⟨S', m', y, w', hr, hxt, hv⟩ := h1 (w.alloc (.cells #[] 241)) ((Below.refl _ _).alloc (Nat.le_refl _) _) (some ⟨w.heap.size, 0, none⟩) 74
    go_enter Tryz.func161, Tryz.ntmps161
    go_wp2_with (at_builtin; refine wpList_append_ok rfl _ _ rfl rfl rfl hr ?_)
    go_ret
    exact ⟨S', m', y, rfl, hxt, hv⟩

theorem clone_hol : SpecOk Tryz.prog 162 fun site vs => ownV Tryz.prog site 162 vs := by
  intro C m S h w site vs q rr e hi xs hx
  have e := own_clone Tryz.func162 rfl e
  obtain ⟨hs, A, n, c, rfl, h0, h1⟩ := cloneV_inv Tryz.func162 (t := 75) rfl Tryz.underlying75 (by kernel_rfl) e hi hx
  have hq := fun W => Lib.run_eql_slice_nil (P := Tryz.prog) W 75 177 A n c 0 0 Tryz.underlying75
  rcases A with _ | ad
  · obtain rfl := h0 rfl
    simp only [Option.isNone_none] at hq
    clear e hx h1
    obtain ⟨m', he, hv⟩ := phantom_ext hi hs 1 none 0 (fun h => absurd rfl h)
    go_enter Tryz.func162, Tryz.ntmps162
    go_wp2_with fail
    go_ret
    exact ⟨S, m', _, rfl, he, hv⟩
  · clear e hx h0
    simp only [Option.isNone_some] at hq
    obtain ⟨S', m', y, w', hr, hxt, hv⟩ := h1 (w.alloc (.cells #[] 177)) ((Below.refl _ _).alloc (Nat.le_refl _) _) (some ⟨w.heap.size, 0, none⟩) 75
    go_enter Tryz.func162, Tryz.ntmps162
    go_wp2_with (at_builtin; refine wpList_append_ok rfl _ _ rfl rfl rfl hr ?_)
    go_ret
    exact ⟨S', m', y, rfl, hxt, hv⟩

theorem clone_wai : SpecOk Tryz.prog 126 fun site vs => ownV Tryz.prog site 126 vs := by
  intro C m S h w site vs q rr e hi xs hx
  have e := own_clone Tryz.func126 rfl e
  obtain ⟨hs, A, n, c, rfl, h0, h1⟩ := cloneV_inv Tryz.func126 (t := 43) rfl Tryz.underlying43 (by kernel_rfl) e hi hx
  have hq := fun W => Lib.run_eql_slice_nil (P := Tryz.prog) W 43 129 A n c 0 0 Tryz.underlying43
  rcases A with _ | ad
  · obtain rfl := h0 rfl
    simp only [Option.isNone_none] at hq
    clear e hx h1
    obtain ⟨m', he, hv⟩ := phantom_ext hi hs 1 none 0 (fun h => absurd rfl h)
    go_enter Tryz.func126, Tryz.ntmps126
    go_wp2_with fail
    go_ret
    exact ⟨S, m', _, rfl, he, hv⟩
  · clear e hx h0
    simp only [Option.isNone_some] at hq
    obtain ⟨S', m', y, w', hr, hxt, hv⟩ := h1 (w.alloc (.cells #[] 129)) ((Below.refl _ _).alloc (Nat.le_refl _) _) (some ⟨w.heap.size, 0, none⟩) 43
    go_enter Tryz.func126, Tryz.ntmps126
    go_wp2_with (at_builtin; refine wpList_append_ok rfl _ _ rfl rfl rfl hr ?_)
    go_ret
    exact ⟨S', m', y, rfl, hxt, hv⟩

theorem clone_prc : SpecOk Tryz.prog 127 fun site vs => ownV Tryz.prog site 127 vs := by
  intro C m S h w site vs q rr e hi xs hx
  have e := own_clone Tryz.func127 rfl e
  obtain ⟨hs, A, n, c, rfl, h0, h1⟩ := cloneV_inv Tryz.func127 (t := 39) rfl Tryz.underlying39 (by kernel_rfl) e hi hx
  have hq := fun W => Lib.run_eql_slice_nil (P := Tryz.prog) W 39 45 A n c 0 0 Tryz.underlying39
  rcases A with _ | ad
  · obtain rfl := h0 rfl
    simp only [Option.isNone_none] at hq
    clear e hx h1
    obtain ⟨m', he, hv⟩ := phantom_ext hi hs 1 none 0 (fun h => absurd rfl h)
    go_enter Tryz.func127, Tryz.ntmps127
    go_wp2_with fail
    go_ret
    exact ⟨S, m', _, rfl, he, hv⟩
  · clear e hx h0
    simp only [Option.isNone_some] at hq
    obtain ⟨S', m', y, w', hr, hxt, hv⟩ := h1 (w.alloc (.cells #[] 45)) ((Below.refl _ _).alloc (Nat.le_refl _) _) (some ⟨w.heap.size, 0, none⟩) 39
    go_enter Tryz.func127, Tryz.ntmps127
    go_wp2_with (at_builtin; refine wpList_append_ok rfl _ _ rfl rfl rfl hr ?_)
    go_ret
    exact ⟨S', m', y, rfl, hxt, hv⟩

theorem clone_env : SpecOk Tryz.prog 131 fun site vs => ownV Tryz.prog site 131 vs := by
  intro C m S h w site vs q rr e hi xs hx
  have e := own_clone Tryz.func131 rfl e
  obtain ⟨hs, A, n, c, rfl, h0, h1⟩ := cloneV_inv Tryz.func131 (t := 54) rfl Tryz.underlying54 (by kernel_rfl) e hi hx
  have hq := fun W => Lib.run_eql_slice_nil (P := Tryz.prog) W 54 136 A n c 0 0 Tryz.underlying54
  rcases A with _ | ad
  · obtain rfl := h0 rfl
    simp only [Option.isNone_none] at hq
    clear e hx h1
    obtain ⟨m', he, hv⟩ := phantom_ext hi hs 1 none 0 (fun h => absurd rfl h)
    go_enter Tryz.func131, Tryz.ntmps131
    go_wp2_with fail
    go_ret
    exact ⟨S, m', _, rfl, he, hv⟩
  · clear e hx h0
    simp only [Option.isNone_some] at hq
    obtain ⟨S', m', y, w', hr, hxt, hv⟩ := h1 (w.alloc (.cells #[] 136)) ((Below.refl _ _).alloc (Nat.le_refl _) _) (some ⟨w.heap.size, 0, none⟩) 54
    go_enter Tryz.func131, Tryz.ntmps131
    go_wp2_with (at_builtin; refine wpList_append_ok rfl _ _ rfl rfl rfl hr ?_)
    go_ret
    exact ⟨S', m', y, rfl, hxt, hv⟩

theorem clone_var : SpecOk Tryz.prog 134 fun site vs => ownV Tryz.prog site 134 vs := by
  intro C m S h w site vs q rr e hi xs hx
  have e := own_clone Tryz.func134 rfl e
  obtain ⟨hs, A, n, c, rfl, h0, h1⟩ := cloneV_inv Tryz.func134 (t := 134) rfl Tryz.underlying134 (by kernel_rfl) e hi hx
  have hq := fun W => Lib.run_eql_slice_nil (P := Tryz.prog) W 134 142 A n c 0 0 Tryz.underlying134
  rcases A with _ | ad
  · obtain rfl := h0 rfl
    simp only [Option.isNone_none] at hq
    clear e hx h1
    obtain ⟨m', he, hv⟩ := phantom_ext hi hs 1 none 0 (fun h => absurd rfl h)
    go_enter Tryz.func134, Tryz.ntmps134
    go_wp2_with fail
    go_ret
    exact ⟨S, m', _, rfl, he, hv⟩
  · clear e hx h0
    simp only [Option.isNone_some] at hq
    obtain ⟨S', m', y, w', hr, hxt, hv⟩ := h1 (w.alloc (.cells #[] 142)) ((Below.refl _ _).alloc (Nat.le_refl _) _) (some ⟨w.heap.size, 0, none⟩) 134
    go_enter Tryz.func134, Tryz.ntmps134
    go_wp2_with (at_builtin; refine wpList_append_ok rfl _ _ rfl rfl rfl hr ?_)
    go_ret
    exact ⟨S', m', y, rfl, hxt, hv⟩

def cloneL : List Nat := [62, 111, 184, 187, 80, 161, 162, 126, 127, 131, 134, 87]
/-- The live slots at the loops' heads. -/
def keepS : List (Nat × Nat × List Nat) := [(10, 4, [1, 4, 6, 200007, 12, 13]), (116, 6, [0, 5]), (116, 8, [0, 5]), (11, 4, [2, 3, 29, 30]),
  (35, 3, [1, 2, 10, 11]), (112, 2, [0, 1, 7, 8]),
  (5, 5, [0, 1, 5, 6, 42, 43]), (5, 14, [0, 1, 5, 6, 65, 66]), (20, 4, [0, 1, 12, 13]), (58, 4, [0, 20, 21]), (61, 9, [0, 4, 21, 22, 23]),
  (142, 3, [200003, 6, 7, 8]), (65, 3, [200003, 6, 7, 8]), (19, 6, [9, 200011, 24, 25, 26]), (22, 2, [0, 1, 2, 200008]), (22, 7, [0, 1, 200008, 10, 12]),
  (210, 2, [0, 1, 7, 8]),
  (23, 2, [0, 3]), (156, 2, [0, 1, 7, 8]), (221, 5, [0, 1, 5, 6]), (85, 3, [0, 2, 4, 8, 9, 10]),
  (12, 5, [1, 3, 4]), (12, 11, [1, 3, 4, 5, 6]), (42, 9, [2, 3, 7]), (42, 14, [2, 3, 8]), (46, 4, [2, 3, 12, 13]), (119, 4, [0, 3]), (120, 2, [0, 3]), (205, 5, [0, 4, 5]), (205, 11, [0, 4, 6, 7]), (206, 3, [0, 1, 5, 6]), (271, 4, [0, 3, 4, 5]), (124, 2, [0, 1, 7, 8]), (129, 4, [0, 3, 4, 7, 8]), (16, 4, [2, 3, 29, 30]), (53, 4, [2, 3, 26, 27]), (53, 10, [2, 3, 44, 45])]
def refL : List Nat := [25, 88, 90, 39, 40, 41, 68, 82, 85, 106, 108, 112, 114, 115, 124, 132, 137, 139, 150, 154, 156, 163, 167, 169, 170, 172, 173, 174, 177, 178, 180, 185, 191, 192, 193, 194, 195, 196, 197, 210, 219, 221, 225, 227, 229, 230, 231, 232, 233, 234, 235, 236, 237, 239, 242, 246, 249, 250, 290, 291, 292, 295, 299, 300, 306, 307, 308, 310, 311, 312, 313, 314, 326, 327, 332, 333, 337, 342, 343, 344, 345, 346, 347, 348, 349, 350, 351, 352, 353, 354, 355, 356, 357, 358, 360, 52, 57, 60, 87, 90, 135, 136, 159, 160, 165, 166, 209, 223, 224, 272, 285, 286, 83, 92, 93, 113, 125, 133, 138, 140, 155, 164, 168, 181, 186, 247, 248, 255, 256]
variable [MaxL]
def primN (f : FuncId) : Option (List V → Option (Bool × V)) :=
  bif Nat.beq f 117 then some repPrim else
  bif Nat.beq f 171 then some ixPrim else
  bif Nat.beq f 141 then some ctPrim else
  bif Nat.beq f 244 then some cnPrim else
  bif Nat.beq f 151 then some numPrim else
  bif Nat.beq f 72 then some joinPrim else
  bif Nat.beq f 143 then some iaPrim else
  bif Nat.beq f 67 then some ftPrim else
  bif Nat.beq f 69 then some cutPrim else
  bif Nat.beq f 74 then some tpPrim else
  bif Nat.beq f 71 then some hpPrim else
  none
def cfgN : Cfg where
  glob := glM
  rows := fun _ => none
  prim := primN
  ref := has refL
  bld := bldN
  self := fun f => Nat.beq f 114
  bstr := fun f => Nat.beq f 41
  clone := has cloneL
  res := fun f => bif has [38, 35, 99, 56, 54, 81, 154, 221, 26, 88, 90] f then 0 else 1
  keep := keepOf keepS
  dfr := fun f => bif Nat.beq f 175 then 4 else 0
theorem cfgN_ok : CfgOk Tryz.prog cfgN where
  prim := fun f g e => by
    have e : primN f = some g := e
    simp only [primN, Bool.cond_eq_ite] at e
    split at e
    · rename_i h
      have h := Nat.eq_of_beq_eq_true h
      subst h; cases e
      exact @rep_prim _
    split at e
    · rename_i h
      have h := Nat.eq_of_beq_eq_true h
      subst h; cases e
      exact @ix_prim _
    split at e
    · rename_i h
      have h := Nat.eq_of_beq_eq_true h
      subst h; cases e
      exact @ct_prim _
    split at e
    · rename_i h
      have h := Nat.eq_of_beq_eq_true h
      subst h; cases e
      exact @cn_prim _
    split at e
    · rename_i h
      have h := Nat.eq_of_beq_eq_true h
      subst h; cases e
      exact @num_prim _
    split at e
    · rename_i h
      have h := Nat.eq_of_beq_eq_true h
      subst h; cases e
      exact @join_prim _
    split at e
    · rename_i h
      have h := Nat.eq_of_beq_eq_true h
      subst h; cases e
      exact @ia_prim _
    split at e
    · rename_i h
      have h := Nat.eq_of_beq_eq_true h
      subst h; cases e
      exact @ft_prim _
    split at e
    · rename_i h
      have h := Nat.eq_of_beq_eq_true h
      subst h; cases e
      exact @cut_prim _
    split at e
    · rename_i h
      have h := Nat.eq_of_beq_eq_true h
      subst h; cases e
      exact @tp_prim _
    split at e
    · rename_i h
      have h := Nat.eq_of_beq_eq_true h
      subst h; cases e
      exact @hp_prim _
    cases e
  self := fun f e => by
    obtain rfl := Nat.eq_of_beq_eq_true e
    exact @self_spec
  clone := fun f e => by
    have e : f ∈ cloneL := has_iff.1 e
    simp only [cloneL, List.mem_cons, List.not_mem_nil, or_false] at e
    rcases e with rfl | rfl | rfl | rfl | rfl | rfl | rfl | rfl | rfl | rfl | rfl | rfl
    · exact @clone_str
    · exact @clone_win
    · exact @clone_int
    · exact @clone_qid
    · exact @clone_lea
    · exact @clone_pie
    · exact @clone_hol
    · exact @clone_wai
    · exact @clone_prc
    · exact @clone_env
    · exact @clone_var
    · exact @ins_lea
  bstr := fun f e => by
    obtain rfl := Nat.eq_of_beq_eq_true e
    exact @bstr_spec
  dfr := fun f n e => by
    simp only [cfgN, Bool.cond_eq_ite] at e
    split at e
    · rename_i h
      have h := Nat.eq_of_beq_eq_true h
      subst h
      obtain rfl : n = 3 := by omega
      exact items_dfr
    · cases e
end Go.Proofs.YthhpdnlfhofanaaGreatDoor
namespace Go.Proofs.YthhpdnlfhofanaaGreatDoor
open Go.RowKit
variable [MaxL]
theorem awake_ev {n : Nat} (h : 40 ≤ n) : evalF Tryz.prog cfgN n 7 [] [] = some (.bool true, []) := by
  obtain ⟨k, rfl⟩ : ∃ k, n = k + 40 := ⟨n - 40, by omega⟩
  kernel_rfl
def okCon : Con := fun vs bs K => match vs, bs with
  | [], [] => K (.bool true) []
  | _, _ => False
theorem ok_con {n : Nat} (hn : 40 ≤ n) : ConOk (evalF Tryz.prog cfgN n) 7 okCon := by
  intro vs bs K h
  unfold okCon at h
  split at h
  · exact ⟨_, _, awake_ev hn, h⟩
  · exact h.elim
end Go.Proofs.YthhpdnlfhofanaaGreatDoor
