/- The order of the bytes in a pipe. -/
import Derived.Test.YtjplfafojmkpbaaDoorPipLaws
namespace Go.Proofs.YtjplfafojmkpbaaDoor
open Go.RowKit
set_option maxRecDepth 100000
set_option linter.unusedVariables false
set_option linter.unusedSimpArgs false
theorem and_one (a : Int) : andI .i64 a 1 = 0 ∨ andI .i64 a 1 = 1 := by
  unfold andI
  have h : (BitVec.ofInt 64 a &&& BitVec.ofInt 64 1).toNat ≤ 1 := by
    rw [BitVec.toNat_and]
    exact Nat.and_le_right
  have h : (BitVec.ofInt IntKind.i64.bits a &&& BitVec.ofInt IntKind.i64.bits 1).toNat ≤ 1 := h
  rw [wrap64 (by omega) (by omega)]
  omega
def oneP (a b : List UInt8) : Pipe := ⟨1, ⟨a, 1, 1, true⟩, ⟨b, 1, 1, true⟩⟩
theorem at_one (a b : List UInt8) : atF [oneP a b] 2 = 0 ∧ atF [oneP a b] 3 = 0 := ⟨rfl, rfl⟩
theorem rd_0 (a b : List UInt8) (m : Int) : ∃ (t : List UInt8) (w : Bool) (e : Int), readF [oneP a b] 2 m = ([oneP (a.drop t.length) b], t, w, e) ∧ t = a.take t.length ∧ t.length ≤ a.length ∧ (e = 0 → 0 < m → a ≠ [] → t ≠ []) := by
  by_cases hm : m < 0
  · exact ⟨[], false, 1, by unfold readF; rw [if_neg (by omega), if_neg (by rw [(at_one a b).1]; omega), if_pos hm]; rfl, rfl, by simp, by omega⟩
  · have h := readF_at (l := [oneP a b]) (id := 2) (m := m) (i := 0) (x := oneP a b) (at_one a b).1 rfl (by omega) (by omega)
    have hd : (endOf (oneP a b) (modI 2 2)).data = a := rfl
    rw [hd] at h
    by_cases ha : a = []
    · rw [if_pos ha] at h
      exact ⟨[], _, 0, by rw [h]; rfl, rfl, by simp, fun _ _ q => absurd ha q⟩
    · rw [if_neg ha] at h
      refine ⟨a.take m.toNat, false, 0, ?_, ?_, ?_, fun _ h1 _ => ?_⟩
      · rw [h]
        have : a.drop (a.take m.toNat).length = a.drop m.toNat := by
          rw [List.length_take]
          rcases Nat.lt_or_ge m.toNat a.length with q | q
          · rw [Nat.min_eq_left (by omega)]
          · rw [Nat.min_eq_right q, List.drop_of_length_le (Nat.le_refl _), List.drop_of_length_le q]
        rw [this]; rfl
      · rw [List.length_take]
        rcases Nat.lt_or_ge m.toNat a.length with q | q
        · rw [Nat.min_eq_left (by omega)]
        · rw [Nat.min_eq_right q, List.take_of_length_le q, List.take_length]
      · rw [List.length_take]; omega
      · intro q
        have q1 := congrArg List.length q
        rw [List.length_take, List.length_nil] at q1
        have q2 : a.length ≠ 0 := fun z => ha (List.eq_nil_of_length_eq_zero z)
        omega
theorem rd_1 (a b : List UInt8) (m : Int) : ∃ (t : List UInt8) (w : Bool) (e : Int), readF [oneP a b] 3 m = ([oneP a (b.drop t.length)], t, w, e) ∧ t = b.take t.length ∧ t.length ≤ b.length ∧ (e = 0 → 0 < m → b ≠ [] → t ≠ []) := by
  by_cases hm : m < 0
  · exact ⟨[], false, 1, by unfold readF; rw [if_neg (by omega), if_neg (by rw [(at_one a b).2]; omega), if_pos hm]; rfl, rfl, by simp, by omega⟩
  · have h := readF_at (l := [oneP a b]) (id := 3) (m := m) (i := 0) (x := oneP a b) (at_one a b).2 rfl (by omega) (by omega)
    have hd : (endOf (oneP a b) (modI 3 2)).data = b := rfl
    rw [hd] at h
    by_cases ha : b = []
    · rw [if_pos ha] at h
      exact ⟨[], _, 0, by rw [h]; rfl, rfl, by simp, fun _ _ q => absurd ha q⟩
    · rw [if_neg ha] at h
      refine ⟨b.take m.toNat, false, 0, ?_, ?_, ?_, fun _ h1 _ => ?_⟩
      · rw [h]
        have : b.drop (b.take m.toNat).length = b.drop m.toNat := by
          rw [List.length_take]
          rcases Nat.lt_or_ge m.toNat b.length with q | q
          · rw [Nat.min_eq_left (by omega)]
          · rw [Nat.min_eq_right q, List.drop_of_length_le (Nat.le_refl _), List.drop_of_length_le q]
        rw [this]; rfl
      · rw [List.length_take]
        rcases Nat.lt_or_ge m.toNat b.length with q | q
        · rw [Nat.min_eq_left (by omega)]
        · rw [Nat.min_eq_right q, List.take_of_length_le q, List.take_length]
      · rw [List.length_take]; omega
      · intro q
        have q1 := congrArg List.length q
        rw [List.length_take, List.length_nil] at q1
        have q2 : b.length ≠ 0 := fun z => ha (List.eq_nil_of_length_eq_zero z)
        omega
theorem wr_0 (a b s : List UInt8) (h1 : a.length ≤ 8192) (h2 : b.length ≤ 8192) : (writeF [oneP a b] 2 s = ([oneP a (b ++ s)], (s.length : Int), false, 0) ∧ b.length + s.length ≤ 8192) ∨
    ∃ (w : Bool) (e : Int), writeF [oneP a b] 2 s = ([oneP a b], 0, w, e) ∧ (e = 0 → w = true) := by
  by_cases hs : 8192 < s.length
  · exact .inr ⟨false, 4, by unfold writeF; rw [if_neg (by omega), if_neg (by rw [(at_one a b).1]; omega), if_pos hs], by omega⟩
  · have h := writeF_at (l := [oneP a b]) (id := 2) (s := s) (i := 0) (x := oneP a b) (at_one a b).1 rfl (by omega) (by omega)
    have hd : (endOf (oneP a b) (1 - modI 2 2)) = ⟨b, 1, 1, true⟩ := rfl
    rw [hd] at h
    simp only [show ¬ (true = true ∧ (1 : Int) = 0) by omega, if_false] at h
    by_cases hl : 8192 < b.length + s.length
    · rw [if_pos hl] at h
      exact .inr ⟨true, 0, h, fun _ => rfl⟩
    · rw [if_neg hl] at h
      exact .inl ⟨by rw [h]; rfl, by omega⟩
theorem wr_1 (a b s : List UInt8) (h1 : a.length ≤ 8192) (h2 : b.length ≤ 8192) : (writeF [oneP a b] 3 s = ([oneP (a ++ s) b], (s.length : Int), false, 0) ∧ a.length + s.length ≤ 8192) ∨
    ∃ (w : Bool) (e : Int), writeF [oneP a b] 3 s = ([oneP a b], 0, w, e) ∧ (e = 0 → w = true) := by
  by_cases hs : 8192 < s.length
  · exact .inr ⟨false, 4, by unfold writeF; rw [if_neg (by omega), if_neg (by rw [(at_one a b).2]; omega), if_pos hs], by omega⟩
  · have h := writeF_at (l := [oneP a b]) (id := 3) (s := s) (i := 0) (x := oneP a b) (at_one a b).2 rfl (by omega) (by omega)
    have hd : (endOf (oneP a b) (1 - modI 3 2)) = ⟨a, 1, 1, true⟩ := rfl
    rw [hd] at h
    simp only [show ¬ (true = true ∧ (1 : Int) = 0) by omega, if_false] at h
    by_cases hl : 8192 < a.length + s.length
    · rw [if_pos hl] at h
      exact .inr ⟨true, 0, h, fun _ => rfl⟩
    · rw [if_neg hl] at h
      exact .inl ⟨by rw [h]; rfl, by omega⟩
theorem cut_end {s t : List UInt8} (h : t.length ≤ s.length) : cutS s (lenS t) (lenS s) = s.drop t.length := by
  simp only [cutS, lenS, Int.toNat_natCast]
  exact List.take_of_length_le (by simp)
theorem cut_start {s t : List UInt8} (h : t = s.take t.length) : cutS s 0 (lenS t) = t := by
  simp only [cutS, lenS, Int.toNat_natCast, Int.toNat_zero, List.drop_zero, Nat.sub_zero]
  exact h.symm
def oneZ : Pipe := ⟨1, ⟨[], 1, 1, true⟩, ⟨[], 0, 0, false⟩⟩
def poI (os : List Op) (x : poX) (m : Nat) : Prop := ∃ (j : Nat) (a b : List UInt8), x.i = (j : Int) ∧ x.xs = pipeV [oneP a b] ∧ a = x.wa ∧ b = x.wb ∧ a.length ≤ 8192 ∧ b.length ≤ 8192 ∧ j + m = os.length
theorem ok_one {a b : List UInt8} (ha : a.length ≤ 8192) (hb : b.length ≤ 8192) : okL [oneP a b] := ⟨by simp, fun x hx => by
  obtain rfl := List.mem_singleton.1 hx
  exact ⟨decide_eq_true ⟨ha, by simp [oneP], by simp [oneP], by simp [oneP]⟩, decide_eq_true ⟨hb, by simp [oneP], by simp [oneP], by simp [oneP]⟩⟩⟩
theorem order_vc {os : List Op} (ho : ∀ o ∈ os, o.fit) {K : V → List Bk → Prop} (hK : K (.bool true) []) : vcF Tryd.prog cfgN (ctOf [(9, okCon), (13, makeCon), (14, openCon), (16, readCon), (15, writeCon)]) (lpOf [(10, poL fun _ _ x m => poI os x m)]) 5 [.lst (opV os)] [] K := by
  rw [lor_vc]
  simp only [opV_lenL]
  rw [br_iff]; refine ⟨fun _ => hK, fun g1 => ?_⟩
  simp only [br_iff, need_iff, andB_t, andB_f, orB_t, orB_f, notB_t, notB_f, leI_t, leI_f, ltI_t, ltI_f, eqI_t, eqI_f, leN_t, leN_f, eqN_t, eqN_f, eqS_t, eqS_f, eqB_t, eqB_f, catOk_t, leC_t] at g1
  refine ⟨[], rfl, by simp, by omega, fun _ => rfl, [⟨1, zE, zE⟩], rfl, ⟨by simp, fun x hx => by obtain rfl := List.mem_singleton.1 hx; exact ⟨rfl, rfl⟩⟩, by omega, by omega, [oneZ], rfl, ⟨by simp, fun x hx => by obtain rfl := List.mem_singleton.1 hx; exact ⟨rfl, rfl⟩⟩, by omega, by omega, ?_⟩
  have c1 : eqI (makeF 0 []).2.1 1 = true := rfl
  have c2 : eqI (makeF 0 []).2.2 0 = true := rfl
  have c3 : eqI (openF [⟨1, zE, zE⟩] 2 2).2 0 = true := rfl
  have c4 : eqI (openF [oneZ] 3 2).2 0 = true := rfl
  rw [c1, c2, c3, c4]
  simp only [show notB true = false from rfl, leN_succ, eqN_self, leI_self, br_ff, br_tt, need_tt, andB_tt, List.drop_zero, List.nil_append, List.append_nil, Nat.zero_add, Nat.add_zero, Nat.sub_zero, List.take_length, Int.ofNat_eq_natCast, Int.toNat_natCast, Int.toNat_zero]
  refine ⟨⟨os.length, by omega, 0, [], [], rfl, rfl, rfl, rfl, by simp, by simp, by omega⟩, ?_⟩
  rintro ⟨n, xs, wa, wb, i⟩ m ⟨j, a, b, hi, hx, h1, h2, ha, hb, hj⟩
  dsimp only at hi hx h1 h2 ⊢
  subst hi; subst hx; subst h1; subst h2
  rw [br_iff]
  refine ⟨fun hlt => ?_, fun hge => hK⟩
  have hlt : j < os.length := by simp only [br_iff, need_iff, andB_t, andB_f, orB_t, orB_f, notB_t, notB_f, leI_t, leI_f, ltI_t, ltI_f, eqI_t, eqI_f, leN_t, leN_f, eqN_t, eqN_f, eqS_t, eqS_f, eqB_t, eqB_f, catOk_t, leC_t] at hlt; omega
  have gf : os[j]? = some os[j] := List.getElem?_eq_getElem hlt
  generalize os[j] = f at gf
  have rf := opV_row gf
  have kf : okRow (opV os) (Int.toNat (j : Int)) 4 = true := by simpa using opV_ok (l := os) (i := j) hlt
  have nf : andB (leI 0 (j : Int)) (ltI (j : Int) (os.length : Int)) = true := by simp only [br_iff, need_iff, andB_t, andB_f, orB_t, orB_f, notB_t, notB_f, leI_t, leI_f, ltI_t, ltI_f, eqI_t, eqI_f, leN_t, leN_f, eqN_t, eqN_f, eqS_t, eqS_f, eqB_t, eqB_f, catOk_t, leC_t]; omega
  rw [need_iff, need_iff]
  refine ⟨nf, kf, ?_⟩
  try rw [rf]
  repeat apply Exists.intro
  refine ⟨rfl, ?_⟩
  rw [br_iff]; refine ⟨fun _ => hK, fun g2 => ?_⟩
  simp only [br_iff, need_iff, andB_t, andB_f, orB_t, orB_f, notB_t, notB_f, leI_t, leI_f, ltI_t, ltI_f, eqI_t, eqI_f, leN_t, leN_f, eqN_t, eqN_f, eqS_t, eqS_f, eqB_t, eqB_f, catOk_t, leC_t, lenS] at g2
  have hf := ho f (List.mem_of_getElem? gf)
  have ok1 := ok_one ha hb
  rcases and_one f.id with hk | hk
  · have ek : eqI (andI .i64 f.id 1) 0 = true := by rw [hk]; rfl
    have ek1 : eqI (andI .i64 f.id 1) 1 = false := by rw [hk]; rfl
    have es : eqI (subI .i64 1 (andI .i64 f.id 1)) 0 = false := by rw [hk]; rfl
    have es1 : eqI (subI .i64 1 (andI .i64 f.id 1)) 1 = true := by rw [hk]; rfl
    have ea : addI .i64 2 (andI .i64 f.id 1) = 2 := by rw [hk]; rfl
    have ei : andB (leI 0 (andI .i64 f.id 1)) (ltI (andI .i64 f.id 1) 2) = true := by rw [hk]; rfl
    have ej : andB (leI 0 (subI .i64 1 (andI .i64 f.id 1))) (ltI (subI .i64 1 (andI .i64 f.id 1)) 2) = true := by rw [hk]; rfl
    rw [br_iff]
    refine ⟨fun _ => ⟨[oneP a b], rfl, ok1, by rw [ea]; omega, by omega, ?_⟩, fun _ => ⟨[oneP a b], rfl, ok1, by rw [ea]; omega, hf.2.2.1.2, ?_⟩⟩
    · rcases wr_0 a b f.data ha hb with ⟨hw, hl⟩ | ⟨w, e, hw, he⟩
      · rw [ea, hw]
        simp only [eqI_refl, show notB false = true from rfl, lenS, es, es1, ej, leN_succ, eqN_self, leI_self, br_ff, br_tt, need_tt, andB_tt, List.drop_zero, List.nil_append, List.append_nil, Nat.zero_add, Nat.add_zero, Nat.sub_zero, List.take_length, Int.ofNat_eq_natCast, Int.toNat_natCast, Int.toNat_zero]
        rw [need_iff]; refine ⟨by simp only [br_iff, need_iff, andB_t, andB_f, orB_t, orB_f, notB_t, notB_f, leI_t, leI_f, ltI_t, ltI_f, eqI_t, eqI_f, leN_t, leN_f, eqN_t, eqN_f, eqS_t, eqS_f, eqB_t, eqB_f, catOk_t, leC_t]; omega, by trivial, m - 1, by omega, j + 1, a, b ++ f.data, by rw [addI_i64 (by omega) (by omega)]; rfl, rfl, rfl, rfl, ha, by rw [List.length_append]; omega, by omega⟩
      · have l5 : lor_vc_5 (opV os) (fun _ _ x m => poI os x m) K [oneP a b] f.id f.data m [] [oneZ] ⟨n, pipeV [oneP a b], a, b, (j : Int)⟩ := by
          unfold lor_vc_5
          rw [ea, hw]
          simp only [eqI_refl, show notB true = false from rfl, leN_succ, eqN_self, leI_self, br_ff, br_tt, need_tt, andB_tt, List.drop_zero, List.nil_append, List.append_nil, Nat.zero_add, Nat.add_zero, Nat.sub_zero, List.take_length, Int.ofNat_eq_natCast, Int.toNat_natCast, Int.toNat_zero]
          exact ⟨by trivial, m - 1, by omega, j + 1, a, b, by rw [addI_i64 (by omega) (by omega)]; rfl, rfl, rfl, rfl, ha, hb, by omega⟩
        rw [ea, hw]
        rw [br_iff]; refine ⟨fun q => ?_, fun _ => l5⟩
        rw [he (by simp only [br_iff, need_iff, andB_t, andB_f, orB_t, orB_f, notB_t, notB_f, leI_t, leI_f, ltI_t, ltI_f, eqI_t, eqI_f, leN_t, leN_f, eqN_t, eqN_f, eqS_t, eqS_f, eqB_t, eqB_f, catOk_t, leC_t] at q; exact q)]
        exact l5
    · obtain ⟨t, w, e, hr, ht, hl, hne⟩ := rd_0 a b f.mode
      have l4 : lor_vc_4 (opV os) (fun _ _ x m => poI os x m) K f.id [oneP a b] f.mode ⟨n, pipeV [oneP a b], a, b, (j : Int)⟩ m [] [oneZ] := by
        unfold lor_vc_4
        rw [ea, hr]
        simp only [ek, ek1, ei, leN_succ, eqN_self, leI_self, br_ff, br_tt, need_tt, andB_tt, List.drop_zero, List.nil_append, List.append_nil, Nat.zero_add, Nat.add_zero, Nat.sub_zero, List.take_length, Int.ofNat_eq_natCast, Int.toNat_natCast, Int.toNat_zero]
        rw [need_iff]; refine ⟨by simp only [br_iff, need_iff, andB_t, andB_f, orB_t, orB_f, notB_t, notB_f, leI_t, leI_f, ltI_t, ltI_f, eqI_t, eqI_f, leN_t, leN_f, eqN_t, eqN_f, eqS_t, eqS_f, eqB_t, eqB_f, catOk_t, leC_t, lenS]; omega, by trivial, m - 1, by omega, j + 1, a.drop t.length, b, by rw [addI_i64 (by omega) (by omega)]; rfl, rfl, (cut_end hl).symm, rfl, by rw [List.length_drop]; omega, hb, by omega⟩
      have l2 : lor_vc_2 (opV os) (fun _ _ x m => poI os x m) K [oneP a b] f.id f.mode ⟨n, pipeV [oneP a b], a, b, (j : Int)⟩ m [] [oneZ] := by
        unfold lor_vc_2
        rw [ea, hr]
        simp only [ek, ek1, ei, leN_succ, eqN_self, leI_self, br_ff, br_tt, need_tt, andB_tt, List.drop_zero, List.nil_append, List.append_nil, Nat.zero_add, Nat.add_zero, Nat.sub_zero, List.take_length, Int.ofNat_eq_natCast, Int.toNat_natCast, Int.toNat_zero]
        rw [br_iff]; refine ⟨fun q1 => ?_, fun _ => l4⟩
        rw [br_iff]; refine ⟨fun q2 => ?_, fun _ => l4⟩
        rw [br_iff]; refine ⟨fun q3 => ?_, fun _ => l4⟩
        unfold lor_vc_3
        rw [ea, hr]
        rw [br_iff]; refine ⟨fun q4 => ?_, fun _ => l4⟩
        simp only [br_iff, need_iff, andB_t, andB_f, orB_t, orB_f, notB_t, notB_f, leI_t, leI_f, ltI_t, ltI_f, eqI_t, eqI_f, leN_t, leN_f, eqN_t, eqN_f, eqS_t, eqS_f, eqB_t, eqB_f, catOk_t, leC_t] at q1 q2 q3 q4
        exact absurd q4 (hne q1 q2 q3)
      have l1 : lor_vc_1 (opV os) (fun _ _ x m => poI os x m) K f.id [oneP a b] f.mode ⟨n, pipeV [oneP a b], a, b, (j : Int)⟩ m [] [oneZ] := by
        unfold lor_vc_1
        rw [ea, hr]
        simp only [ek, ek1, ei, leN_succ, eqN_self, leI_self, br_ff, br_tt, need_tt, andB_tt, List.drop_zero, List.nil_append, List.append_nil, Nat.zero_add, Nat.add_zero, Nat.sub_zero, List.take_length, Int.ofNat_eq_natCast, Int.toNat_natCast, Int.toNat_zero]
        rw [need_iff]; refine ⟨by simp only [br_iff, need_iff, andB_t, andB_f, orB_t, orB_f, notB_t, notB_f, leI_t, leI_f, ltI_t, ltI_f, eqI_t, eqI_f, leN_t, leN_f, eqN_t, eqN_f, eqS_t, eqS_f, eqB_t, eqB_f, catOk_t, leC_t, lenS]; omega, ?_⟩
        rw [show cutS a 0 (lenS t) = t from cut_start ht, eqS_refl]
        exact l2
      rw [ea, hr]
      simp only [ek, ek1, ei, leN_succ, eqN_self, leI_self, br_ff, br_tt, need_tt, andB_tt, List.drop_zero, List.nil_append, List.append_nil, Nat.zero_add, Nat.add_zero, Nat.sub_zero, List.take_length, Int.ofNat_eq_natCast, Int.toNat_natCast, Int.toNat_zero]
      rw [br_iff]; exact ⟨fun q => by simp only [br_iff, need_iff, andB_t, andB_f, orB_t, orB_f, notB_t, notB_f, leI_t, leI_f, ltI_t, ltI_f, eqI_t, eqI_f, leN_t, leN_f, eqN_t, eqN_f, eqS_t, eqS_f, eqB_t, eqB_f, catOk_t, leC_t, lenS] at q; omega, fun _ => l1⟩
  · have ek : eqI (andI .i64 f.id 1) 0 = false := by rw [hk]; rfl
    have ek1 : eqI (andI .i64 f.id 1) 1 = true := by rw [hk]; rfl
    have es : eqI (subI .i64 1 (andI .i64 f.id 1)) 0 = true := by rw [hk]; rfl
    have es1 : eqI (subI .i64 1 (andI .i64 f.id 1)) 1 = false := by rw [hk]; rfl
    have ea : addI .i64 2 (andI .i64 f.id 1) = 3 := by rw [hk]; rfl
    have ei : andB (leI 0 (andI .i64 f.id 1)) (ltI (andI .i64 f.id 1) 2) = true := by rw [hk]; rfl
    have ej : andB (leI 0 (subI .i64 1 (andI .i64 f.id 1))) (ltI (subI .i64 1 (andI .i64 f.id 1)) 2) = true := by rw [hk]; rfl
    rw [br_iff]
    refine ⟨fun _ => ⟨[oneP a b], rfl, ok1, by rw [ea]; omega, by omega, ?_⟩, fun _ => ⟨[oneP a b], rfl, ok1, by rw [ea]; omega, hf.2.2.1.2, ?_⟩⟩
    · rcases wr_1 a b f.data ha hb with ⟨hw, hl⟩ | ⟨w, e, hw, he⟩
      · rw [ea, hw]
        simp only [eqI_refl, show notB false = true from rfl, lenS, es, es1, ej, leN_succ, eqN_self, leI_self, br_ff, br_tt, need_tt, andB_tt, List.drop_zero, List.nil_append, List.append_nil, Nat.zero_add, Nat.add_zero, Nat.sub_zero, List.take_length, Int.ofNat_eq_natCast, Int.toNat_natCast, Int.toNat_zero]
        rw [need_iff]; refine ⟨by simp only [br_iff, need_iff, andB_t, andB_f, orB_t, orB_f, notB_t, notB_f, leI_t, leI_f, ltI_t, ltI_f, eqI_t, eqI_f, leN_t, leN_f, eqN_t, eqN_f, eqS_t, eqS_f, eqB_t, eqB_f, catOk_t, leC_t]; omega, by trivial, m - 1, by omega, j + 1, a ++ f.data, b, by rw [addI_i64 (by omega) (by omega)]; rfl, rfl, rfl, rfl, by rw [List.length_append]; omega, hb, by omega⟩
      · have l5 : lor_vc_5 (opV os) (fun _ _ x m => poI os x m) K [oneP a b] f.id f.data m [] [oneZ] ⟨n, pipeV [oneP a b], a, b, (j : Int)⟩ := by
          unfold lor_vc_5
          rw [ea, hw]
          simp only [eqI_refl, show notB true = false from rfl, leN_succ, eqN_self, leI_self, br_ff, br_tt, need_tt, andB_tt, List.drop_zero, List.nil_append, List.append_nil, Nat.zero_add, Nat.add_zero, Nat.sub_zero, List.take_length, Int.ofNat_eq_natCast, Int.toNat_natCast, Int.toNat_zero]
          exact ⟨by trivial, m - 1, by omega, j + 1, a, b, by rw [addI_i64 (by omega) (by omega)]; rfl, rfl, rfl, rfl, ha, hb, by omega⟩
        rw [ea, hw]
        rw [br_iff]; refine ⟨fun q => ?_, fun _ => l5⟩
        rw [he (by simp only [br_iff, need_iff, andB_t, andB_f, orB_t, orB_f, notB_t, notB_f, leI_t, leI_f, ltI_t, ltI_f, eqI_t, eqI_f, leN_t, leN_f, eqN_t, eqN_f, eqS_t, eqS_f, eqB_t, eqB_f, catOk_t, leC_t] at q; exact q)]
        exact l5
    · obtain ⟨t, w, e, hr, ht, hl, hne⟩ := rd_1 a b f.mode
      have l4 : lor_vc_4 (opV os) (fun _ _ x m => poI os x m) K f.id [oneP a b] f.mode ⟨n, pipeV [oneP a b], a, b, (j : Int)⟩ m [] [oneZ] := by
        unfold lor_vc_4
        rw [ea, hr]
        simp only [ek, ek1, ei, leN_succ, eqN_self, leI_self, br_ff, br_tt, need_tt, andB_tt, List.drop_zero, List.nil_append, List.append_nil, Nat.zero_add, Nat.add_zero, Nat.sub_zero, List.take_length, Int.ofNat_eq_natCast, Int.toNat_natCast, Int.toNat_zero]
        rw [need_iff]; refine ⟨by simp only [br_iff, need_iff, andB_t, andB_f, orB_t, orB_f, notB_t, notB_f, leI_t, leI_f, ltI_t, ltI_f, eqI_t, eqI_f, leN_t, leN_f, eqN_t, eqN_f, eqS_t, eqS_f, eqB_t, eqB_f, catOk_t, leC_t, lenS]; omega, by trivial, m - 1, by omega, j + 1, a, b.drop t.length, by rw [addI_i64 (by omega) (by omega)]; rfl, rfl, rfl, (cut_end hl).symm, ha, by rw [List.length_drop]; omega, by omega⟩
      have l2 : lor_vc_2 (opV os) (fun _ _ x m => poI os x m) K [oneP a b] f.id f.mode ⟨n, pipeV [oneP a b], a, b, (j : Int)⟩ m [] [oneZ] := by
        unfold lor_vc_2
        rw [ea, hr]
        simp only [ek, ek1, ei, leN_succ, eqN_self, leI_self, br_ff, br_tt, need_tt, andB_tt, List.drop_zero, List.nil_append, List.append_nil, Nat.zero_add, Nat.add_zero, Nat.sub_zero, List.take_length, Int.ofNat_eq_natCast, Int.toNat_natCast, Int.toNat_zero]
        rw [br_iff]; refine ⟨fun q1 => ?_, fun _ => l4⟩
        rw [br_iff]; refine ⟨fun q2 => ?_, fun _ => l4⟩
        rw [br_iff]; refine ⟨fun q3 => ?_, fun _ => l4⟩
        unfold lor_vc_3
        rw [ea, hr]
        rw [br_iff]; refine ⟨fun q4 => ?_, fun _ => l4⟩
        simp only [br_iff, need_iff, andB_t, andB_f, orB_t, orB_f, notB_t, notB_f, leI_t, leI_f, ltI_t, ltI_f, eqI_t, eqI_f, leN_t, leN_f, eqN_t, eqN_f, eqS_t, eqS_f, eqB_t, eqB_f, catOk_t, leC_t] at q1 q2 q3 q4
        exact absurd q4 (hne q1 q2 q3)
      have l1 : lor_vc_1 (opV os) (fun _ _ x m => poI os x m) K f.id [oneP a b] f.mode ⟨n, pipeV [oneP a b], a, b, (j : Int)⟩ m [] [oneZ] := by
        unfold lor_vc_1
        rw [ea, hr]
        simp only [ek, ek1, ei, leN_succ, eqN_self, leI_self, br_ff, br_tt, need_tt, andB_tt, List.drop_zero, List.nil_append, List.append_nil, Nat.zero_add, Nat.add_zero, Nat.sub_zero, List.take_length, Int.ofNat_eq_natCast, Int.toNat_natCast, Int.toNat_zero]
        rw [need_iff]; refine ⟨by simp only [br_iff, need_iff, andB_t, andB_f, orB_t, orB_f, notB_t, notB_f, leI_t, leI_f, ltI_t, ltI_f, eqI_t, eqI_f, leN_t, leN_f, eqN_t, eqN_f, eqS_t, eqS_f, eqB_t, eqB_f, catOk_t, leC_t, lenS]; omega, ?_⟩
        rw [show cutS b 0 (lenS t) = t from cut_start ht, eqS_refl]
        exact l2
      rw [ea, hr]
      simp only [ek, ek1, ei, leN_succ, eqN_self, leI_self, br_ff, br_tt, need_tt, andB_tt, List.drop_zero, List.nil_append, List.append_nil, Nat.zero_add, Nat.add_zero, Nat.sub_zero, List.take_length, Int.ofNat_eq_natCast, Int.toNat_natCast, Int.toNat_zero]
      rw [br_iff]; exact ⟨fun q => by simp only [br_iff, need_iff, andB_t, andB_f, orB_t, orB_f, notB_t, notB_f, leI_t, leI_f, ltI_t, ltI_f, eqI_t, eqI_f, leN_t, leN_f, eqN_t, eqN_f, eqS_t, eqS_f, eqB_t, eqB_f, catOk_t, leC_t, lenS] at q; omega, fun _ => l1⟩
theorem order_says {os : List Op} (ho : ∀ o ∈ os, o.fit) : Says 5 [.lst (opV os)] :=
  run_of (by omega) (fun k hk => ctOf_ok (ctOf_cons (ok_con (by omega)) (ctOf_cons (mk_con (by omega)) (ctOf_cons (op_con (by omega)) (ctOf_cons (rd_con (by omega)) (ctOf_cons (wt_con (by omega)) (ctOf_nil _))))))) (order_vc ho ⟨rfl, rfl⟩)
theorem order_fits {us : List V} (h : FitsAll keepsSh us) : Says 5 us := by
  obtain ⟨v0, r0, rfl, h0, rfl⟩ := h
  obtain ⟨l, rfl, hl⟩ := ops_fits h0
  exact order_says hl
end Go.Proofs.YtjplfafojmkpbaaDoor
namespace Go.Proofs.YtjplfafojmkpbaaDoor
open Go.RowKit
set_option maxRecDepth 100000
set_option linter.unusedVariables false
set_option linter.unusedSimpArgs false
def zeroD : Dir := ⟨0, 0, 0, 0, 0, 0, 0, 0, 0, [], [], [], []⟩

def statF (l : List Pipe) (id : Int) : Dir × Int :=
  if id = 1 then (⟨3, 0, 128, 0, 1, 2147484013, 0, 0, 0, [47], [115, 121, 115], [115, 121, 115], []⟩, 0) else if atF l id < 0 then (zeroD, 8) else
  match l[(atF l id).toNat]? with
  | none => (zeroD, 0)
  | some x => (⟨3, 0, 0, 0, id, 438, 0, 0, (endOf x (modI id 2)).data.length, nameF id, [115, 121, 115], [115, 121, 115], []⟩, 0)

def statCon : Con := fun vs bs K => match vs, bs with
  | [.agg [.int .i64 n, .lst xs], .int .i64 id], [] => ∃ l, xs = pipeV l ∧ okL l ∧ id ≤ 9223372036854775807 ∧ K (.tup [.agg (statF l id).1.v, .int .i64 (statF l id).2]) []
  | _, _ => False

def nameCon2 : Con := fun vs bs K => match vs, bs with
  | [.int .i64 id], [] => 1 < id ∧ id ≤ 9223372036854775807 ∧ K (.str (nameF id)) []
  | _, _ => False

structure wlC where
  want : List UInt8
  xs : List (List V)
  cnt : Int
structure wlX where
  i : Int
def wlSt (c : wlC) (x : wlX) : St := ⟨[(2, .str c.want), (27, .lst c.xs), (28, .int .i64 c.cnt), (29, .int .i64 x.i)], []⟩
def wlUn (s : St) : Option (wlC × wlX) :=
  match s with
  | ⟨[(q0, .str want), (q1, .lst xs), (q2, .int .i64 cnt), (q3, .int .i64 i)], []⟩ => bif Nat.beq q0 2 && Nat.beq q1 27 && Nat.beq q2 28 && Nat.beq q3 29 then some (⟨want, xs, cnt⟩, ⟨i⟩) else none
  | _ => none
def wlL (inv : wlC → wlX → wlX → Nat → Prop) : LoopS where
  C := wlC
  X := wlX
  st := wlSt
  un := wlUn
  ok := by
    intro s c x h
    unfold wlUn at h
    split at h
    · simp only [Bool.cond_eq_ite] at h
      split at h
      · rename_i hg
        simp only [Bool.and_eq_true, Nat.beq_eq] at hg
        obtain ⟨⟨⟨rfl, rfl⟩, rfl⟩, rfl⟩ := hg
        cases h
        rfl
      · cases h
    · cases h
  inv := inv

structure rwlC where
  want : List UInt8
  nx : Int
  xs : List (List V)
structure rwlX where
  i : Int
def rwlSt (c : rwlC) (x : rwlX) : St := ⟨[(2, .str c.want), (3, .ptr 0 0 0), (8, .int .i64 x.i)], [(0, ⟨true, true, true, [[.int .i64 c.nx, .lst c.xs]]⟩)]⟩
def rwlUn (s : St) : Option (rwlC × rwlX) :=
  match s with
  | ⟨[(q0, .str want), (q1, .ptr q2 q3 q4), (q5, .int .i64 i)], [(q6, ⟨true, true, true, [[.int .i64 nx, .lst xs]]⟩)]⟩ => bif Nat.beq q0 2 && Nat.beq q1 3 && Nat.beq q2 0 && Nat.beq q3 0 && Nat.beq q4 0 && Nat.beq q5 8 && Nat.beq q6 0 then some (⟨want, nx, xs⟩, ⟨i⟩) else none
  | _ => none
def rwlL (inv : rwlC → rwlX → rwlX → Nat → Prop) : LoopS where
  C := rwlC
  X := rwlX
  st := rwlSt
  un := rwlUn
  ok := by
    intro s c x h
    unfold rwlUn at h
    split at h
    · simp only [Bool.cond_eq_ite] at h
      split at h
      · rename_i hg
        simp only [Bool.and_eq_true, Nat.beq_eq] at hg
        obtain ⟨⟨⟨⟨⟨⟨rfl, rfl⟩, rfl⟩, rfl⟩, rfl⟩, rfl⟩, rfl⟩ := hg
        cases h
        rfl
      · cases h
    · cases h
  inv := inv

structure lsC where
  nx : Int
  xs : List (List V)
  zs : List (List V)
  cnt : Int
structure lsX where
  ys : List (List V)
  n : Nat
  k : Nat
  i : Int
def lsSt (c : lsC) (x : lsX) : St := ⟨[(2, .ptr 0 0 0), (9, .ref 1 0 x.n x.k), (26, .lst c.zs), (27, .int .i64 c.cnt), (28, .int .i64 x.i)], [(0, ⟨true, true, true, [[.int .i64 c.nx, .lst c.xs]]⟩), (1, ⟨true, false, true, x.ys⟩)]⟩
def lsUn (s : St) : Option (lsC × lsX) :=
  match s with
  | ⟨[(q0, .ptr q1 q2 q3), (q4, .ref q5 q6 n k), (q7, .lst zs), (q8, .int .i64 cnt), (q9, .int .i64 i)], [(q10, ⟨true, true, true, [[.int .i64 nx, .lst xs]]⟩), (q11, ⟨true, false, true, ys⟩)]⟩ => bif Nat.beq q0 2 && Nat.beq q1 0 && Nat.beq q2 0 && Nat.beq q3 0 && Nat.beq q4 9 && Nat.beq q5 1 && Nat.beq q6 0 && Nat.beq q7 26 && Nat.beq q8 27 && Nat.beq q9 28 && Nat.beq q10 0 && Nat.beq q11 1 then some (⟨nx, xs, zs, cnt⟩, ⟨ys, n, k, i⟩) else none
  | _ => none
def lsL (inv : lsC → lsX → lsX → Nat → Prop) : LoopS where
  C := lsC
  X := lsX
  st := lsSt
  un := lsUn
  ok := by
    intro s c x h
    unfold lsUn at h
    split at h
    · simp only [Bool.cond_eq_ite] at h
      split at h
      · rename_i hg
        simp only [Bool.and_eq_true, Nat.beq_eq] at hg
        obtain ⟨⟨⟨⟨⟨⟨⟨⟨⟨⟨⟨rfl, rfl⟩, rfl⟩, rfl⟩, rfl⟩, rfl⟩, rfl⟩, rfl⟩, rfl⟩, rfl⟩, rfl⟩, rfl⟩ := hg
        cases h
        rfl
      · cases h
    · cases h
  inv := inv

structure rlsC where
  nx : Int
  xs : List (List V)
structure rlsX where
  ys : List (List V)
  n : Nat
  k : Nat
  i : Int
def rlsSt (c : rlsC) (x : rlsX) : St := ⟨[(2, .ptr 0 0 0), (6, .ref 1 0 x.n x.k), (7, .int .i64 x.i)], [(0, ⟨true, true, true, [[.int .i64 c.nx, .lst c.xs]]⟩), (1, ⟨true, false, true, x.ys⟩)]⟩
def rlsUn (s : St) : Option (rlsC × rlsX) :=
  match s with
  | ⟨[(q0, .ptr q1 q2 q3), (q4, .ref q5 q6 n k), (q7, .int .i64 i)], [(q8, ⟨true, true, true, [[.int .i64 nx, .lst xs]]⟩), (q9, ⟨true, false, true, ys⟩)]⟩ => bif Nat.beq q0 2 && Nat.beq q1 0 && Nat.beq q2 0 && Nat.beq q3 0 && Nat.beq q4 6 && Nat.beq q5 1 && Nat.beq q6 0 && Nat.beq q7 7 && Nat.beq q8 0 && Nat.beq q9 1 then some (⟨nx, xs⟩, ⟨ys, n, k, i⟩) else none
  | _ => none
def rlsL (inv : rlsC → rlsX → rlsX → Nat → Prop) : LoopS where
  C := rlsC
  X := rlsX
  st := rlsSt
  un := rlsUn
  ok := by
    intro s c x h
    unfold rlsUn at h
    split at h
    · simp only [Bool.cond_eq_ite] at h
      split at h
      · rename_i hg
        simp only [Bool.and_eq_true, Nat.beq_eq] at hg
        obtain ⟨⟨⟨⟨⟨⟨⟨⟨⟨rfl, rfl⟩, rfl⟩, rfl⟩, rfl⟩, rfl⟩, rfl⟩, rfl⟩, rfl⟩, rfl⟩ := hg
        cases h
        rfl
      · cases h
    · cases h
  inv := inv

structure dsC where
  xs : List (List V)
  ys : List (List V)
structure dsX where
  i : Int
def dsSt (c : dsC) (x : dsX) : St := ⟨[(0, .lst c.xs), (1, .lst c.ys), (5, .int .i64 x.i)], []⟩
def dsUn (s : St) : Option (dsC × dsX) :=
  match s with
  | ⟨[(q0, .lst xs), (q1, .lst ys), (q2, .int .i64 i)], []⟩ => bif Nat.beq q0 0 && Nat.beq q1 1 && Nat.beq q2 5 then some (⟨xs, ys⟩, ⟨i⟩) else none
  | _ => none
def dsL (inv : dsC → dsX → dsX → Nat → Prop) : LoopS where
  C := dsC
  X := dsX
  st := dsSt
  un := dsUn
  ok := by
    intro s c x h
    unfold dsUn at h
    split at h
    · simp only [Bool.cond_eq_ite] at h
      split at h
      · rename_i hg
        simp only [Bool.and_eq_true, Nat.beq_eq] at hg
        obtain ⟨⟨rfl, rfl⟩, rfl⟩ := hg
        cases h
        rfl
      · cases h
    · cases h
  inv := inv

theorem stt_vc (n : Int) (xs : List (List V)) (id : Int) (K : V → List Bk → Prop) : vcF Tryd.prog cfgN (ctOf [(37, findCon), (42, nameCon2)]) (lpOf []) 20 [.agg [.int .i64 n, .lst xs], .int .i64 id] [] K = (
  br (eqI id 1) (
    K (V.tup [V.agg [V.int IntKind.i64 3, V.int IntKind.i64 0, V.int IntKind.i64 128, V.int IntKind.i64 0, V.int IntKind.i64 id, V.int IntKind.i64 2147484013, V.int IntKind.i64 0, V.int IntKind.i64 0, V.int IntKind.i64 0, V.str [47], V.str [115, 121, 115], V.str [115, 121, 115], V.str []], V.int IntKind.i64 0]) []) (
    ∃ l4 : List Pipe, ((xs : List (List V)) = pipeV l4) ∧ (
    (((l4.length : Nat) ≤ 100000)) ∧ (
    (((id : Int) ≤ 9223372036854775807)) ∧ (
    br (ltI (atF l4 id) 0) (
      ∀ i5 : Int, ∀ k6 : Int, K (V.tup [V.agg [V.int IntKind.i64 0, V.int IntKind.i64 0, V.int IntKind.i64 0, V.int IntKind.i64 0, V.int IntKind.i64 0, V.int IntKind.i64 0, V.int IntKind.i64 0, V.int IntKind.i64 0, V.int IntKind.i64 0, V.str [], V.str [], V.str [], V.str []], V.int IntKind.i64 8]) []) (
      need (andB (leI 0 (atF l4 id)) (ltI (atF l4 id) (lenL xs))) (
      need (okRow xs (atF l4 id).toNat 9) (
      need (andB (leI 0 (modI id 2)) (ltI (modI id 2) 2)) (
      ∃ s5 : List UInt8, ((sub (rowAt xs (atF l4 id)) (1 + (modI id 2).toNat * 4 + 0) 1 : Option (List V)) = some [V.str s5]) ∧ (
      (((1 : Int) < id)) ∧ (
      (((id : Int) ≤ 9223372036854775807)) ∧ (
      K (V.tup [V.agg [V.int IntKind.i64 3, V.int IntKind.i64 0, V.int IntKind.i64 0, V.int IntKind.i64 0, V.int IntKind.i64 id, V.int IntKind.i64 438, V.int IntKind.i64 0, V.int IntKind.i64 0, V.int IntKind.i64 (lenS s5), V.str (nameF id), V.str [115, 121, 115], V.str [115, 121, 115], V.str []], V.int IntKind.i64 0]) [])))))))))))) := by kernel_rfl

theorem rstt_vc (n : Int) (xs : List (List V)) (id : Int) (K : V → List Bk → Prop) : vcF Tryd.prog cfgN (ctOf [(43, atCon), (44, nameCon2)]) (lpOf []) 22 [.agg [.int .i64 n, .lst xs], .int .i64 id] [] K = (
  br (eqI id 1) (
    K (V.tup [V.agg [V.int IntKind.i64 3, V.int IntKind.i64 0, V.int IntKind.i64 128, V.int IntKind.i64 0, V.int IntKind.i64 1, V.int IntKind.i64 2147484013, V.int IntKind.i64 0, V.int IntKind.i64 0, V.int IntKind.i64 0, V.str [47], V.str [115, 121, 115], V.str [115, 121, 115], V.str []], V.int IntKind.i64 0]) []) (
    ∃ l4 : List Pipe, ((xs : List (List V)) = pipeV l4) ∧ (
    (((l4.length : Nat) ≤ 100000)) ∧ (
    (((id : Int) ≤ 9223372036854775807)) ∧ (
    br (ltI (atF l4 id) 0) (
      K (V.tup [V.agg [V.int IntKind.i64 0, V.int IntKind.i64 0, V.int IntKind.i64 0, V.int IntKind.i64 0, V.int IntKind.i64 0, V.int IntKind.i64 0, V.int IntKind.i64 0, V.int IntKind.i64 0, V.int IntKind.i64 0, V.str [], V.str [], V.str [], V.str []], V.int IntKind.i64 8]) []) (
      need (andB (leI 0 (atF l4 id)) (ltI (atF l4 id) (lenL xs))) (
      need (okRow xs (atF l4 id).toNat 9) (
      need (andB (leI 0 (id.tmod 2)) (ltI (id.tmod 2) 2)) (
      ∃ s5 : List UInt8, ((sub (rowAt xs (atF l4 id)) (1 + (id.tmod 2).toNat * 4 + 0) 1 : Option (List V)) = some [V.str s5]) ∧ (
      (((1 : Int) < id)) ∧ (
      (((id : Int) ≤ 9223372036854775807)) ∧ (
      K (V.tup [V.agg [V.int IntKind.i64 3, V.int IntKind.i64 0, V.int IntKind.i64 0, V.int IntKind.i64 0, V.int IntKind.i64 id, V.int IntKind.i64 438, V.int IntKind.i64 0, V.int IntKind.i64 0, V.int IntKind.i64 (lenS s5), V.str (nameF id), V.str [115, 121, 115], V.str [115, 121, 115], V.str []], V.int IntKind.i64 0]) [])))))))))))) := by kernel_rfl

theorem wk_vc (n : Int) (xs : List (List V)) (id : Int) (want : List UInt8) (I : wlC → wlX → wlX → Nat → Prop) (K : V → List Bk → Prop) : vcF Tryd.prog cfgN (ctOf [(37, findCon), (42, nameCon2)]) (lpOf [(9, wlL I), (12, unrL 3)]) 19 [.agg [.int .i64 n, .lst xs], .int .i64 id, .str want] [] K = (
  br (notB (eqI id 1)) (
    ∃ l6 : List Pipe, ((xs : List (List V)) = pipeV l6) ∧ (
    (((l6.length : Nat) ≤ 100000)) ∧ (
    (((id : Int) ≤ 9223372036854775807)) ∧ (
    br (ltI (atF l6 id) 0) (
      ∀ i7 : Int, ∀ k8 : Int, K (V.tup [V.int IntKind.i64 0, V.int IntKind.i64 8]) []) (
      K (V.tup [V.int IntKind.i64 0, V.int IntKind.i64 9]) []))))) (
    br (eqS want [46, 46]) (
      K (V.tup [V.int IntKind.i64 1, V.int IntKind.i64 0]) []) (
      (∃ m6 : Nat, (((m6 : Nat) < 18446744073709551616)) ∧ (
      I (wlC.mk want xs (lenL xs)) (wlX.mk 0) (wlX.mk 0) m6)) ∧ (
      ∀ x6 : (wlL I).X, ∀ m7 : Nat, (I (wlC.mk want xs (lenL xs)) (wlX.mk 0) x6 m7) → (
      br (ltI x6.1 (lenL xs)) (
        need (andB (leI 0 x6.1) (ltI x6.1 (lenL xs))) (
        need (okRow xs x6.1.toNat 9) (
        ∃ n8 : Int, ∃ s9 : List UInt8, ∃ n10 : Int, ∃ n11 : Int, ∃ b12 : Bool, ∃ s13 : List UInt8, ∃ n14 : Int, ∃ n15 : Int, ∃ b16 : Bool, ((sub (rowAt xs x6.1) 0 9 : Option (List V)) = some [V.int IntKind.i64 n8, V.str s9, V.int IntKind.i64 n10, V.int IntKind.i64 n11, V.bool b12, V.str s13, V.int IntKind.i64 n14, V.int IntKind.i64 n15, V.bool b16]) ∧ (
        (((1 : Int) < addI IntKind.i64 (mulI IntKind.i64 2 n8) 0)) ∧ (
        (((addI IntKind.i64 (mulI IntKind.i64 2 n8) 0 : Int) ≤ 9223372036854775807)) ∧ (
        br (eqS (nameF (addI IntKind.i64 (mulI IntKind.i64 2 n8) 0)) want) (
          K (V.tup [V.int IntKind.i64 (addI IntKind.i64 (mulI IntKind.i64 2 n8) 0), V.int IntKind.i64 0]) []) (
          (((1 : Int) < addI IntKind.i64 (mulI IntKind.i64 2 n8) 1)) ∧ (
          (((addI IntKind.i64 (mulI IntKind.i64 2 n8) 1 : Int) ≤ 9223372036854775807)) ∧ (
          br (eqS (nameF (addI IntKind.i64 (mulI IntKind.i64 2 n8) 1)) want) (
            K (V.tup [V.int IntKind.i64 (addI IntKind.i64 (mulI IntKind.i64 2 n8) 1), V.int IntKind.i64 0]) []) (
            ((wlC.mk want xs (lenL xs) : (wlL I).C) = wlC.mk want xs (lenL xs)) ∧ (
            ∃ m'17 : Nat, (((m'17 : Nat) < m7)) ∧ (
            I (wlC.mk want xs (lenL xs)) (wlX.mk 0) (wlX.mk (addI IntKind.i64 x6.1 1)) m'17)))))))))))) (
        K (V.tup [V.int IntKind.i64 0, V.int IntKind.i64 8]) [])))))) := by kernel_rfl

def rwk_vc_1 (n : Int) (xs : List (List V)) (id : Int) (want : List UInt8) (I : rwlC → rwlX → rwlX → Nat → Prop) (K : V → List Bk → Prop) : Prop :=
  (
      br (notB (eqI id 1)) (
        K (V.tup [V.int IntKind.i64 0, V.int IntKind.i64 9]) []) (
        br (eqS want [46, 46]) (
          K (V.tup [V.int IntKind.i64 1, V.int IntKind.i64 0]) []) (
          (∃ m7 : Nat, (((m7 : Nat) < 18446744073709551616)) ∧ (
          I (rwlC.mk want n xs) (rwlX.mk 0) (rwlX.mk 0) m7)) ∧ (
          ∀ x7 : (rwlL I).X, ∀ m8 : Nat, (I (rwlC.mk want n xs) (rwlX.mk 0) x7 m8) → (
          br (ltI x7.1 (lenL xs)) (
            need (andB (leI 0 x7.1) (ltI x7.1 (lenL xs))) (
            need (okRow xs x7.1.toNat 9) (
            ∃ n9 : Int, ((sub (rowAt xs x7.1) 0 1 : Option (List V)) = some [V.int IntKind.i64 n9]) ∧ (
            (((1 : Int) < addI IntKind.i64 (mulI IntKind.i64 2 n9) 0)) ∧ (
            (((addI IntKind.i64 (mulI IntKind.i64 2 n9) 0 : Int) ≤ 9223372036854775807)) ∧ (
            br (eqS (nameF (addI IntKind.i64 (mulI IntKind.i64 2 n9) 0)) want) (
              need (andB (leI 0 x7.1) (ltI x7.1 (lenL xs))) (
              need (okRow xs x7.1.toNat 9) (
              ∃ n10 : Int, ((sub (rowAt xs x7.1) 0 1 : Option (List V)) = some [V.int IntKind.i64 n10]) ∧ (
              K (V.tup [V.int IntKind.i64 (addI IntKind.i64 (mulI IntKind.i64 2 n10) 0), V.int IntKind.i64 0]) [])))) (
              need (andB (leI 0 x7.1) (ltI x7.1 (lenL xs))) (
              need (okRow xs x7.1.toNat 9) (
              ∃ n10 : Int, ((sub (rowAt xs x7.1) 0 1 : Option (List V)) = some [V.int IntKind.i64 n10]) ∧ (
              (((1 : Int) < addI IntKind.i64 (mulI IntKind.i64 2 n10) 1)) ∧ (
              (((addI IntKind.i64 (mulI IntKind.i64 2 n10) 1 : Int) ≤ 9223372036854775807)) ∧ (
              br (eqS (nameF (addI IntKind.i64 (mulI IntKind.i64 2 n10) 1)) want) (
                need (andB (leI 0 x7.1) (ltI x7.1 (lenL xs))) (
                need (okRow xs x7.1.toNat 9) (
                ∃ n11 : Int, ((sub (rowAt xs x7.1) 0 1 : Option (List V)) = some [V.int IntKind.i64 n11]) ∧ (
                K (V.tup [V.int IntKind.i64 (addI IntKind.i64 (mulI IntKind.i64 2 n11) 1), V.int IntKind.i64 0]) [])))) (
                ((rwlC.mk want n xs : (rwlL I).C) = rwlC.mk want n xs) ∧ (
                ∃ m'11 : Nat, (((m'11 : Nat) < m8)) ∧ (
                I (rwlC.mk want n xs) (rwlX.mk 0) (rwlX.mk (addI IntKind.i64 x7.1 1)) m'11))))))))))))))) (
            K (V.tup [V.int IntKind.i64 0, V.int IntKind.i64 8]) []))))))
theorem rwk_vc (n : Int) (xs : List (List V)) (id : Int) (want : List UInt8) (I : rwlC → rwlX → rwlX → Nat → Prop) (K : V → List Bk → Prop) : vcF Tryd.prog cfgN (ctOf [(43, atCon), (44, nameCon2)]) (lpOf [(8, rwlL I), (11, unrL 3)]) 21 [.agg [.int .i64 n, .lst xs], .int .i64 id, .str want] [] K = (
  br (notB (eqI id 1)) (
    ∃ l6 : List Pipe, ((xs : List (List V)) = pipeV l6) ∧ (
    (((l6.length : Nat) ≤ 100000)) ∧ (
    (((id : Int) ≤ 9223372036854775807)) ∧ (
    br (ltI (atF l6 id) 0) (
      K (V.tup [V.int IntKind.i64 0, V.int IntKind.i64 8]) []) (rwk_vc_1 n xs id want I K))))) (rwk_vc_1 n xs id want I K)) := by kernel_rfl

theorem ls_vc (n : Int) (xs : List (List V)) (id : Int) (I : lsC → lsX → lsX → Nat → Prop) (K : V → List Bk → Prop) : vcF Tryd.prog cfgN (ctOf [(37, findCon), (20, statCon)]) (lpOf [(8, lsL I), (11, unrL 3)]) 23 [.agg [.int .i64 n, .lst xs], .int .i64 id] [] K = (
  br (notB (eqI id 1)) (
    ∃ l5 : List Pipe, ((xs : List (List V)) = pipeV l5) ∧ (
    (((l5.length : Nat) ≤ 100000)) ∧ (
    (((id : Int) ≤ 9223372036854775807)) ∧ (
    br (ltI (atF l5 id) 0) (
      ∀ i6 : Int, ∀ k7 : Int, K (V.tup [V.lst [], V.int IntKind.i64 8]) []) (
      K (V.tup [V.lst [], V.int IntKind.i64 9]) []))))) (
    (∃ m5 : Nat, (((m5 : Nat) < 18446744073709551616)) ∧ (
    I (lsC.mk n xs xs (lenL xs)) (lsX.mk [] 0 0 0) (lsX.mk [] 0 0 0) m5)) ∧ (
    ∀ x5 : (lsL I).X, ∀ m6 : Nat, (I (lsC.mk n xs xs (lenL xs)) (lsX.mk [] 0 0 0) x5 m6) → (
    br (ltI x5.4 (lenL xs)) (
      need (andB (leI 0 x5.4) (ltI x5.4 (lenL xs))) (
      need (okRow xs x5.4.toNat 9) (
      ∃ n7 : Int, ∃ s8 : List UInt8, ∃ n9 : Int, ∃ n10 : Int, ∃ b11 : Bool, ∃ s12 : List UInt8, ∃ n13 : Int, ∃ n14 : Int, ∃ b15 : Bool, ((sub (rowAt xs x5.4) 0 9 : Option (List V)) = some [V.int IntKind.i64 n7, V.str s8, V.int IntKind.i64 n9, V.int IntKind.i64 n10, V.bool b11, V.str s12, V.int IntKind.i64 n13, V.int IntKind.i64 n14, V.bool b15]) ∧ (
      ∃ l16 : List Pipe, ((xs : List (List V)) = pipeV l16) ∧ (
      (okL l16) ∧ (
      (((addI IntKind.i64 (mulI IntKind.i64 2 n7) 0 : Int) ≤ 9223372036854775807)) ∧ (
      br (notB (eqI (statF l16 (addI IntKind.i64 (mulI IntKind.i64 2 n7) 0)).2 0)) (
        K (V.tup [V.lst [], V.int IntKind.i64 (statF l16 (addI IntKind.i64 (mulI IntKind.i64 2 n7) 0)).2]) []) (
        need (headOkP 13 x5.1) (
        br (leN (x5.2 + 1) x5.3) (
          ∃ l17 : List Pipe, ((xs : List (List V)) = pipeV l17) ∧ (
          (okL l17) ∧ (
          (((addI IntKind.i64 (mulI IntKind.i64 2 n7) 1 : Int) ≤ 9223372036854775807)) ∧ (
          br (notB (eqI (statF l17 (addI IntKind.i64 (mulI IntKind.i64 2 n7) (addI IntKind.i64 0 1))).2 0)) (
            K (V.tup [V.lst [], V.int IntKind.i64 (statF l17 (addI IntKind.i64 (mulI IntKind.i64 2 n7) (addI IntKind.i64 0 1))).2]) []) (
            need (headOkP 13 (List.take (0 + x5.2) x5.1 ++ [[V.int IntKind.i64 (statF l16 (addI IntKind.i64 (mulI IntKind.i64 2 n7) 0)).fst.1, V.int IntKind.i64 (statF l16 (addI IntKind.i64 (mulI IntKind.i64 2 n7) 0)).fst.2, V.int IntKind.i64 (statF l16 (addI IntKind.i64 (mulI IntKind.i64 2 n7) 0)).fst.3, V.int IntKind.i64 (statF l16 (addI IntKind.i64 (mulI IntKind.i64 2 n7) 0)).fst.4, V.int IntKind.i64 (statF l16 (addI IntKind.i64 (mulI IntKind.i64 2 n7) 0)).fst.5, V.int IntKind.i64 (statF l16 (addI IntKind.i64 (mulI IntKind.i64 2 n7) 0)).fst.6, V.int IntKind.i64 (statF l16 (addI IntKind.i64 (mulI IntKind.i64 2 n7) 0)).fst.7, V.int IntKind.i64 (statF l16 (addI IntKind.i64 (mulI IntKind.i64 2 n7) 0)).fst.8, V.int IntKind.i64 (statF l16 (addI IntKind.i64 (mulI IntKind.i64 2 n7) 0)).fst.9, V.str (statF l16 (addI IntKind.i64 (mulI IntKind.i64 2 n7) 0)).fst.10, V.str (statF l16 (addI IntKind.i64 (mulI IntKind.i64 2 n7) 0)).fst.11, V.str (statF l16 (addI IntKind.i64 (mulI IntKind.i64 2 n7) 0)).fst.12, V.str (statF l16 (addI IntKind.i64 (mulI IntKind.i64 2 n7) 0)).fst.13]] ++ List.drop (0 + x5.2 + 1) x5.1)) (
            br (leN (x5.2 + 1 + 1) x5.3) (
              ((lsC.mk n xs xs (lenL xs) : (lsL I).C) = lsC.mk n xs xs (lenL xs)) ∧ (
              ∃ m'18 : Nat, (((m'18 : Nat) < m6)) ∧ (
              I (lsC.mk n xs xs (lenL xs)) (lsX.mk [] 0 0 0) (lsX.mk (List.take (0 + (x5.2 + 1)) (List.take (0 + x5.2) x5.1 ++ [[V.int IntKind.i64 (statF l16 (addI IntKind.i64 (mulI IntKind.i64 2 n7) 0)).fst.1, V.int IntKind.i64 (statF l16 (addI IntKind.i64 (mulI IntKind.i64 2 n7) 0)).fst.2, V.int IntKind.i64 (statF l16 (addI IntKind.i64 (mulI IntKind.i64 2 n7) 0)).fst.3, V.int IntKind.i64 (statF l16 (addI IntKind.i64 (mulI IntKind.i64 2 n7) 0)).fst.4, V.int IntKind.i64 (statF l16 (addI IntKind.i64 (mulI IntKind.i64 2 n7) 0)).fst.5, V.int IntKind.i64 (statF l16 (addI IntKind.i64 (mulI IntKind.i64 2 n7) 0)).fst.6, V.int IntKind.i64 (statF l16 (addI IntKind.i64 (mulI IntKind.i64 2 n7) 0)).fst.7, V.int IntKind.i64 (statF l16 (addI IntKind.i64 (mulI IntKind.i64 2 n7) 0)).fst.8, V.int IntKind.i64 (statF l16 (addI IntKind.i64 (mulI IntKind.i64 2 n7) 0)).fst.9, V.str (statF l16 (addI IntKind.i64 (mulI IntKind.i64 2 n7) 0)).fst.10, V.str (statF l16 (addI IntKind.i64 (mulI IntKind.i64 2 n7) 0)).fst.11, V.str (statF l16 (addI IntKind.i64 (mulI IntKind.i64 2 n7) 0)).fst.12, V.str (statF l16 (addI IntKind.i64 (mulI IntKind.i64 2 n7) 0)).fst.13]] ++ List.drop (0 + x5.2 + 1) x5.1) ++ [[V.int IntKind.i64 (statF l17 (addI IntKind.i64 (mulI IntKind.i64 2 n7) (addI IntKind.i64 0 1))).fst.1, V.int IntKind.i64 (statF l17 (addI IntKind.i64 (mulI IntKind.i64 2 n7) (addI IntKind.i64 0 1))).fst.2, V.int IntKind.i64 (statF l17 (addI IntKind.i64 (mulI IntKind.i64 2 n7) (addI IntKind.i64 0 1))).fst.3, V.int IntKind.i64 (statF l17 (addI IntKind.i64 (mulI IntKind.i64 2 n7) (addI IntKind.i64 0 1))).fst.4, V.int IntKind.i64 (statF l17 (addI IntKind.i64 (mulI IntKind.i64 2 n7) (addI IntKind.i64 0 1))).fst.5, V.int IntKind.i64 (statF l17 (addI IntKind.i64 (mulI IntKind.i64 2 n7) (addI IntKind.i64 0 1))).fst.6, V.int IntKind.i64 (statF l17 (addI IntKind.i64 (mulI IntKind.i64 2 n7) (addI IntKind.i64 0 1))).fst.7, V.int IntKind.i64 (statF l17 (addI IntKind.i64 (mulI IntKind.i64 2 n7) (addI IntKind.i64 0 1))).fst.8, V.int IntKind.i64 (statF l17 (addI IntKind.i64 (mulI IntKind.i64 2 n7) (addI IntKind.i64 0 1))).fst.9, V.str (statF l17 (addI IntKind.i64 (mulI IntKind.i64 2 n7) (addI IntKind.i64 0 1))).fst.10, V.str (statF l17 (addI IntKind.i64 (mulI IntKind.i64 2 n7) (addI IntKind.i64 0 1))).fst.11, V.str (statF l17 (addI IntKind.i64 (mulI IntKind.i64 2 n7) (addI IntKind.i64 0 1))).fst.12, V.str (statF l17 (addI IntKind.i64 (mulI IntKind.i64 2 n7) (addI IntKind.i64 0 1))).fst.13]] ++ List.drop (0 + (x5.2 + 1) + 1) (List.take (0 + x5.2) x5.1 ++ [[V.int IntKind.i64 (statF l16 (addI IntKind.i64 (mulI IntKind.i64 2 n7) 0)).fst.1, V.int IntKind.i64 (statF l16 (addI IntKind.i64 (mulI IntKind.i64 2 n7) 0)).fst.2, V.int IntKind.i64 (statF l16 (addI IntKind.i64 (mulI IntKind.i64 2 n7) 0)).fst.3, V.int IntKind.i64 (statF l16 (addI IntKind.i64 (mulI IntKind.i64 2 n7) 0)).fst.4, V.int IntKind.i64 (statF l16 (addI IntKind.i64 (mulI IntKind.i64 2 n7) 0)).fst.5, V.int IntKind.i64 (statF l16 (addI IntKind.i64 (mulI IntKind.i64 2 n7) 0)).fst.6, V.int IntKind.i64 (statF l16 (addI IntKind.i64 (mulI IntKind.i64 2 n7) 0)).fst.7, V.int IntKind.i64 (statF l16 (addI IntKind.i64 (mulI IntKind.i64 2 n7) 0)).fst.8, V.int IntKind.i64 (statF l16 (addI IntKind.i64 (mulI IntKind.i64 2 n7) 0)).fst.9, V.str (statF l16 (addI IntKind.i64 (mulI IntKind.i64 2 n7) 0)).fst.10, V.str (statF l16 (addI IntKind.i64 (mulI IntKind.i64 2 n7) 0)).fst.11, V.str (statF l16 (addI IntKind.i64 (mulI IntKind.i64 2 n7) 0)).fst.12, V.str (statF l16 (addI IntKind.i64 (mulI IntKind.i64 2 n7) 0)).fst.13]] ++ List.drop (0 + x5.2 + 1) x5.1)) (x5.2 + 1 + 1) x5.3 (addI IntKind.i64 x5.4 1)) m'18))) (
              need (eqN (0 + (x5.2 + 1)) (List.take (0 + x5.2) x5.1 ++ [[V.int IntKind.i64 (statF l16 (addI IntKind.i64 (mulI IntKind.i64 2 n7) 0)).fst.1, V.int IntKind.i64 (statF l16 (addI IntKind.i64 (mulI IntKind.i64 2 n7) 0)).fst.2, V.int IntKind.i64 (statF l16 (addI IntKind.i64 (mulI IntKind.i64 2 n7) 0)).fst.3, V.int IntKind.i64 (statF l16 (addI IntKind.i64 (mulI IntKind.i64 2 n7) 0)).fst.4, V.int IntKind.i64 (statF l16 (addI IntKind.i64 (mulI IntKind.i64 2 n7) 0)).fst.5, V.int IntKind.i64 (statF l16 (addI IntKind.i64 (mulI IntKind.i64 2 n7) 0)).fst.6, V.int IntKind.i64 (statF l16 (addI IntKind.i64 (mulI IntKind.i64 2 n7) 0)).fst.7, V.int IntKind.i64 (statF l16 (addI IntKind.i64 (mulI IntKind.i64 2 n7) 0)).fst.8, V.int IntKind.i64 (statF l16 (addI IntKind.i64 (mulI IntKind.i64 2 n7) 0)).fst.9, V.str (statF l16 (addI IntKind.i64 (mulI IntKind.i64 2 n7) 0)).fst.10, V.str (statF l16 (addI IntKind.i64 (mulI IntKind.i64 2 n7) 0)).fst.11, V.str (statF l16 (addI IntKind.i64 (mulI IntKind.i64 2 n7) 0)).fst.12, V.str (statF l16 (addI IntKind.i64 (mulI IntKind.i64 2 n7) 0)).fst.13]] ++ List.drop (0 + x5.2 + 1) x5.1).length) (
              need (leN ((x5.2 + 1 + 1) * 136) 140737488355328) (
              ((lsC.mk n xs xs (lenL xs) : (lsL I).C) = lsC.mk n xs xs (lenL xs)) ∧ (
              ∃ m'18 : Nat, (((m'18 : Nat) < m6)) ∧ (
              I (lsC.mk n xs xs (lenL xs)) (lsX.mk [] 0 0 0) (lsX.mk (List.drop 0 (List.take (0 + x5.2) x5.1 ++ [[V.int IntKind.i64 (statF l16 (addI IntKind.i64 (mulI IntKind.i64 2 n7) 0)).fst.1, V.int IntKind.i64 (statF l16 (addI IntKind.i64 (mulI IntKind.i64 2 n7) 0)).fst.2, V.int IntKind.i64 (statF l16 (addI IntKind.i64 (mulI IntKind.i64 2 n7) 0)).fst.3, V.int IntKind.i64 (statF l16 (addI IntKind.i64 (mulI IntKind.i64 2 n7) 0)).fst.4, V.int IntKind.i64 (statF l16 (addI IntKind.i64 (mulI IntKind.i64 2 n7) 0)).fst.5, V.int IntKind.i64 (statF l16 (addI IntKind.i64 (mulI IntKind.i64 2 n7) 0)).fst.6, V.int IntKind.i64 (statF l16 (addI IntKind.i64 (mulI IntKind.i64 2 n7) 0)).fst.7, V.int IntKind.i64 (statF l16 (addI IntKind.i64 (mulI IntKind.i64 2 n7) 0)).fst.8, V.int IntKind.i64 (statF l16 (addI IntKind.i64 (mulI IntKind.i64 2 n7) 0)).fst.9, V.str (statF l16 (addI IntKind.i64 (mulI IntKind.i64 2 n7) 0)).fst.10, V.str (statF l16 (addI IntKind.i64 (mulI IntKind.i64 2 n7) 0)).fst.11, V.str (statF l16 (addI IntKind.i64 (mulI IntKind.i64 2 n7) 0)).fst.12, V.str (statF l16 (addI IntKind.i64 (mulI IntKind.i64 2 n7) 0)).fst.13]] ++ List.drop (0 + x5.2 + 1) x5.1) ++ [[V.int IntKind.i64 (statF l17 (addI IntKind.i64 (mulI IntKind.i64 2 n7) (addI IntKind.i64 0 1))).fst.1, V.int IntKind.i64 (statF l17 (addI IntKind.i64 (mulI IntKind.i64 2 n7) (addI IntKind.i64 0 1))).fst.2, V.int IntKind.i64 (statF l17 (addI IntKind.i64 (mulI IntKind.i64 2 n7) (addI IntKind.i64 0 1))).fst.3, V.int IntKind.i64 (statF l17 (addI IntKind.i64 (mulI IntKind.i64 2 n7) (addI IntKind.i64 0 1))).fst.4, V.int IntKind.i64 (statF l17 (addI IntKind.i64 (mulI IntKind.i64 2 n7) (addI IntKind.i64 0 1))).fst.5, V.int IntKind.i64 (statF l17 (addI IntKind.i64 (mulI IntKind.i64 2 n7) (addI IntKind.i64 0 1))).fst.6, V.int IntKind.i64 (statF l17 (addI IntKind.i64 (mulI IntKind.i64 2 n7) (addI IntKind.i64 0 1))).fst.7, V.int IntKind.i64 (statF l17 (addI IntKind.i64 (mulI IntKind.i64 2 n7) (addI IntKind.i64 0 1))).fst.8, V.int IntKind.i64 (statF l17 (addI IntKind.i64 (mulI IntKind.i64 2 n7) (addI IntKind.i64 0 1))).fst.9, V.str (statF l17 (addI IntKind.i64 (mulI IntKind.i64 2 n7) (addI IntKind.i64 0 1))).fst.10, V.str (statF l17 (addI IntKind.i64 (mulI IntKind.i64 2 n7) (addI IntKind.i64 0 1))).fst.11, V.str (statF l17 (addI IntKind.i64 (mulI IntKind.i64 2 n7) (addI IntKind.i64 0 1))).fst.12, V.str (statF l17 (addI IntKind.i64 (mulI IntKind.i64 2 n7) (addI IntKind.i64 0 1))).fst.13]]) (x5.2 + 1 + 1) (x5.2 + 1 + 1) (addI IntKind.i64 x5.4 1)) m'18))))))))))) (
          need (eqN (0 + x5.2) x5.1.length) (
          need (leN ((x5.2 + 1) * 136) 140737488355328) (
          ∃ l17 : List Pipe, ((xs : List (List V)) = pipeV l17) ∧ (
          (okL l17) ∧ (
          (((addI IntKind.i64 (mulI IntKind.i64 2 n7) 1 : Int) ≤ 9223372036854775807)) ∧ (
          br (notB (eqI (statF l17 (addI IntKind.i64 (mulI IntKind.i64 2 n7) (addI IntKind.i64 0 1))).2 0)) (
            K (V.tup [V.lst [], V.int IntKind.i64 (statF l17 (addI IntKind.i64 (mulI IntKind.i64 2 n7) (addI IntKind.i64 0 1))).2]) []) (
            need (headOkP 13 (List.drop 0 x5.1 ++ [[V.int IntKind.i64 (statF l16 (addI IntKind.i64 (mulI IntKind.i64 2 n7) 0)).fst.1, V.int IntKind.i64 (statF l16 (addI IntKind.i64 (mulI IntKind.i64 2 n7) 0)).fst.2, V.int IntKind.i64 (statF l16 (addI IntKind.i64 (mulI IntKind.i64 2 n7) 0)).fst.3, V.int IntKind.i64 (statF l16 (addI IntKind.i64 (mulI IntKind.i64 2 n7) 0)).fst.4, V.int IntKind.i64 (statF l16 (addI IntKind.i64 (mulI IntKind.i64 2 n7) 0)).fst.5, V.int IntKind.i64 (statF l16 (addI IntKind.i64 (mulI IntKind.i64 2 n7) 0)).fst.6, V.int IntKind.i64 (statF l16 (addI IntKind.i64 (mulI IntKind.i64 2 n7) 0)).fst.7, V.int IntKind.i64 (statF l16 (addI IntKind.i64 (mulI IntKind.i64 2 n7) 0)).fst.8, V.int IntKind.i64 (statF l16 (addI IntKind.i64 (mulI IntKind.i64 2 n7) 0)).fst.9, V.str (statF l16 (addI IntKind.i64 (mulI IntKind.i64 2 n7) 0)).fst.10, V.str (statF l16 (addI IntKind.i64 (mulI IntKind.i64 2 n7) 0)).fst.11, V.str (statF l16 (addI IntKind.i64 (mulI IntKind.i64 2 n7) 0)).fst.12, V.str (statF l16 (addI IntKind.i64 (mulI IntKind.i64 2 n7) 0)).fst.13]])) (
            br (leN (x5.2 + 1 + 1) (x5.2 + 1)) (
              ((lsC.mk n xs xs (lenL xs) : (lsL I).C) = lsC.mk n xs xs (lenL xs)) ∧ (
              ∃ m'18 : Nat, (((m'18 : Nat) < m6)) ∧ (
              I (lsC.mk n xs xs (lenL xs)) (lsX.mk [] 0 0 0) (lsX.mk (List.take (0 + (x5.2 + 1)) (List.drop 0 x5.1 ++ [[V.int IntKind.i64 (statF l16 (addI IntKind.i64 (mulI IntKind.i64 2 n7) 0)).fst.1, V.int IntKind.i64 (statF l16 (addI IntKind.i64 (mulI IntKind.i64 2 n7) 0)).fst.2, V.int IntKind.i64 (statF l16 (addI IntKind.i64 (mulI IntKind.i64 2 n7) 0)).fst.3, V.int IntKind.i64 (statF l16 (addI IntKind.i64 (mulI IntKind.i64 2 n7) 0)).fst.4, V.int IntKind.i64 (statF l16 (addI IntKind.i64 (mulI IntKind.i64 2 n7) 0)).fst.5, V.int IntKind.i64 (statF l16 (addI IntKind.i64 (mulI IntKind.i64 2 n7) 0)).fst.6, V.int IntKind.i64 (statF l16 (addI IntKind.i64 (mulI IntKind.i64 2 n7) 0)).fst.7, V.int IntKind.i64 (statF l16 (addI IntKind.i64 (mulI IntKind.i64 2 n7) 0)).fst.8, V.int IntKind.i64 (statF l16 (addI IntKind.i64 (mulI IntKind.i64 2 n7) 0)).fst.9, V.str (statF l16 (addI IntKind.i64 (mulI IntKind.i64 2 n7) 0)).fst.10, V.str (statF l16 (addI IntKind.i64 (mulI IntKind.i64 2 n7) 0)).fst.11, V.str (statF l16 (addI IntKind.i64 (mulI IntKind.i64 2 n7) 0)).fst.12, V.str (statF l16 (addI IntKind.i64 (mulI IntKind.i64 2 n7) 0)).fst.13]]) ++ [[V.int IntKind.i64 (statF l17 (addI IntKind.i64 (mulI IntKind.i64 2 n7) (addI IntKind.i64 0 1))).fst.1, V.int IntKind.i64 (statF l17 (addI IntKind.i64 (mulI IntKind.i64 2 n7) (addI IntKind.i64 0 1))).fst.2, V.int IntKind.i64 (statF l17 (addI IntKind.i64 (mulI IntKind.i64 2 n7) (addI IntKind.i64 0 1))).fst.3, V.int IntKind.i64 (statF l17 (addI IntKind.i64 (mulI IntKind.i64 2 n7) (addI IntKind.i64 0 1))).fst.4, V.int IntKind.i64 (statF l17 (addI IntKind.i64 (mulI IntKind.i64 2 n7) (addI IntKind.i64 0 1))).fst.5, V.int IntKind.i64 (statF l17 (addI IntKind.i64 (mulI IntKind.i64 2 n7) (addI IntKind.i64 0 1))).fst.6, V.int IntKind.i64 (statF l17 (addI IntKind.i64 (mulI IntKind.i64 2 n7) (addI IntKind.i64 0 1))).fst.7, V.int IntKind.i64 (statF l17 (addI IntKind.i64 (mulI IntKind.i64 2 n7) (addI IntKind.i64 0 1))).fst.8, V.int IntKind.i64 (statF l17 (addI IntKind.i64 (mulI IntKind.i64 2 n7) (addI IntKind.i64 0 1))).fst.9, V.str (statF l17 (addI IntKind.i64 (mulI IntKind.i64 2 n7) (addI IntKind.i64 0 1))).fst.10, V.str (statF l17 (addI IntKind.i64 (mulI IntKind.i64 2 n7) (addI IntKind.i64 0 1))).fst.11, V.str (statF l17 (addI IntKind.i64 (mulI IntKind.i64 2 n7) (addI IntKind.i64 0 1))).fst.12, V.str (statF l17 (addI IntKind.i64 (mulI IntKind.i64 2 n7) (addI IntKind.i64 0 1))).fst.13]] ++ List.drop (0 + (x5.2 + 1) + 1) (List.drop 0 x5.1 ++ [[V.int IntKind.i64 (statF l16 (addI IntKind.i64 (mulI IntKind.i64 2 n7) 0)).fst.1, V.int IntKind.i64 (statF l16 (addI IntKind.i64 (mulI IntKind.i64 2 n7) 0)).fst.2, V.int IntKind.i64 (statF l16 (addI IntKind.i64 (mulI IntKind.i64 2 n7) 0)).fst.3, V.int IntKind.i64 (statF l16 (addI IntKind.i64 (mulI IntKind.i64 2 n7) 0)).fst.4, V.int IntKind.i64 (statF l16 (addI IntKind.i64 (mulI IntKind.i64 2 n7) 0)).fst.5, V.int IntKind.i64 (statF l16 (addI IntKind.i64 (mulI IntKind.i64 2 n7) 0)).fst.6, V.int IntKind.i64 (statF l16 (addI IntKind.i64 (mulI IntKind.i64 2 n7) 0)).fst.7, V.int IntKind.i64 (statF l16 (addI IntKind.i64 (mulI IntKind.i64 2 n7) 0)).fst.8, V.int IntKind.i64 (statF l16 (addI IntKind.i64 (mulI IntKind.i64 2 n7) 0)).fst.9, V.str (statF l16 (addI IntKind.i64 (mulI IntKind.i64 2 n7) 0)).fst.10, V.str (statF l16 (addI IntKind.i64 (mulI IntKind.i64 2 n7) 0)).fst.11, V.str (statF l16 (addI IntKind.i64 (mulI IntKind.i64 2 n7) 0)).fst.12, V.str (statF l16 (addI IntKind.i64 (mulI IntKind.i64 2 n7) 0)).fst.13]])) (x5.2 + 1 + 1) (x5.2 + 1) (addI IntKind.i64 x5.4 1)) m'18))) (
              need (eqN (0 + (x5.2 + 1)) (List.drop 0 x5.1 ++ [[V.int IntKind.i64 (statF l16 (addI IntKind.i64 (mulI IntKind.i64 2 n7) 0)).fst.1, V.int IntKind.i64 (statF l16 (addI IntKind.i64 (mulI IntKind.i64 2 n7) 0)).fst.2, V.int IntKind.i64 (statF l16 (addI IntKind.i64 (mulI IntKind.i64 2 n7) 0)).fst.3, V.int IntKind.i64 (statF l16 (addI IntKind.i64 (mulI IntKind.i64 2 n7) 0)).fst.4, V.int IntKind.i64 (statF l16 (addI IntKind.i64 (mulI IntKind.i64 2 n7) 0)).fst.5, V.int IntKind.i64 (statF l16 (addI IntKind.i64 (mulI IntKind.i64 2 n7) 0)).fst.6, V.int IntKind.i64 (statF l16 (addI IntKind.i64 (mulI IntKind.i64 2 n7) 0)).fst.7, V.int IntKind.i64 (statF l16 (addI IntKind.i64 (mulI IntKind.i64 2 n7) 0)).fst.8, V.int IntKind.i64 (statF l16 (addI IntKind.i64 (mulI IntKind.i64 2 n7) 0)).fst.9, V.str (statF l16 (addI IntKind.i64 (mulI IntKind.i64 2 n7) 0)).fst.10, V.str (statF l16 (addI IntKind.i64 (mulI IntKind.i64 2 n7) 0)).fst.11, V.str (statF l16 (addI IntKind.i64 (mulI IntKind.i64 2 n7) 0)).fst.12, V.str (statF l16 (addI IntKind.i64 (mulI IntKind.i64 2 n7) 0)).fst.13]]).length) (
              need (leN ((x5.2 + 1 + 1) * 136) 140737488355328) (
              ((lsC.mk n xs xs (lenL xs) : (lsL I).C) = lsC.mk n xs xs (lenL xs)) ∧ (
              ∃ m'18 : Nat, (((m'18 : Nat) < m6)) ∧ (
              I (lsC.mk n xs xs (lenL xs)) (lsX.mk [] 0 0 0) (lsX.mk (List.drop 0 (List.drop 0 x5.1 ++ [[V.int IntKind.i64 (statF l16 (addI IntKind.i64 (mulI IntKind.i64 2 n7) 0)).fst.1, V.int IntKind.i64 (statF l16 (addI IntKind.i64 (mulI IntKind.i64 2 n7) 0)).fst.2, V.int IntKind.i64 (statF l16 (addI IntKind.i64 (mulI IntKind.i64 2 n7) 0)).fst.3, V.int IntKind.i64 (statF l16 (addI IntKind.i64 (mulI IntKind.i64 2 n7) 0)).fst.4, V.int IntKind.i64 (statF l16 (addI IntKind.i64 (mulI IntKind.i64 2 n7) 0)).fst.5, V.int IntKind.i64 (statF l16 (addI IntKind.i64 (mulI IntKind.i64 2 n7) 0)).fst.6, V.int IntKind.i64 (statF l16 (addI IntKind.i64 (mulI IntKind.i64 2 n7) 0)).fst.7, V.int IntKind.i64 (statF l16 (addI IntKind.i64 (mulI IntKind.i64 2 n7) 0)).fst.8, V.int IntKind.i64 (statF l16 (addI IntKind.i64 (mulI IntKind.i64 2 n7) 0)).fst.9, V.str (statF l16 (addI IntKind.i64 (mulI IntKind.i64 2 n7) 0)).fst.10, V.str (statF l16 (addI IntKind.i64 (mulI IntKind.i64 2 n7) 0)).fst.11, V.str (statF l16 (addI IntKind.i64 (mulI IntKind.i64 2 n7) 0)).fst.12, V.str (statF l16 (addI IntKind.i64 (mulI IntKind.i64 2 n7) 0)).fst.13]]) ++ [[V.int IntKind.i64 (statF l17 (addI IntKind.i64 (mulI IntKind.i64 2 n7) (addI IntKind.i64 0 1))).fst.1, V.int IntKind.i64 (statF l17 (addI IntKind.i64 (mulI IntKind.i64 2 n7) (addI IntKind.i64 0 1))).fst.2, V.int IntKind.i64 (statF l17 (addI IntKind.i64 (mulI IntKind.i64 2 n7) (addI IntKind.i64 0 1))).fst.3, V.int IntKind.i64 (statF l17 (addI IntKind.i64 (mulI IntKind.i64 2 n7) (addI IntKind.i64 0 1))).fst.4, V.int IntKind.i64 (statF l17 (addI IntKind.i64 (mulI IntKind.i64 2 n7) (addI IntKind.i64 0 1))).fst.5, V.int IntKind.i64 (statF l17 (addI IntKind.i64 (mulI IntKind.i64 2 n7) (addI IntKind.i64 0 1))).fst.6, V.int IntKind.i64 (statF l17 (addI IntKind.i64 (mulI IntKind.i64 2 n7) (addI IntKind.i64 0 1))).fst.7, V.int IntKind.i64 (statF l17 (addI IntKind.i64 (mulI IntKind.i64 2 n7) (addI IntKind.i64 0 1))).fst.8, V.int IntKind.i64 (statF l17 (addI IntKind.i64 (mulI IntKind.i64 2 n7) (addI IntKind.i64 0 1))).fst.9, V.str (statF l17 (addI IntKind.i64 (mulI IntKind.i64 2 n7) (addI IntKind.i64 0 1))).fst.10, V.str (statF l17 (addI IntKind.i64 (mulI IntKind.i64 2 n7) (addI IntKind.i64 0 1))).fst.11, V.str (statF l17 (addI IntKind.i64 (mulI IntKind.i64 2 n7) (addI IntKind.i64 0 1))).fst.12, V.str (statF l17 (addI IntKind.i64 (mulI IntKind.i64 2 n7) (addI IntKind.i64 0 1))).fst.13]]) (x5.2 + 1 + 1) (x5.2 + 1 + 1) (addI IntKind.i64 x5.4 1)) m'18)))))))))))))))))))))) (
      K (V.tup [V.lst (List.take x5.2 (List.drop 0 x5.1)), V.int IntKind.i64 0]) []))))) := by kernel_rfl

def rls_vc_1 (n : Int) (xs : List (List V)) (id : Int) (I : rlsC → rlsX → rlsX → Nat → Prop) (K : V → List Bk → Prop) : Prop :=
  (
      br (notB (eqI id 1)) (
        K (V.tup [V.lst [], V.int IntKind.i64 9]) []) (
        (∃ m6 : Nat, (((m6 : Nat) < 18446744073709551616)) ∧ (
        I (rlsC.mk n xs) (rlsX.mk [] 0 0 0) (rlsX.mk [] 0 0 0) m6)) ∧ (
        ∀ x6 : (rlsL I).X, ∀ m7 : Nat, (I (rlsC.mk n xs) (rlsX.mk [] 0 0 0) x6 m7) → (
        br (ltI x6.4 (lenL xs)) (
          need (andB (leI 0 x6.4) (ltI x6.4 (lenL xs))) (
          need (okRow xs x6.4.toNat 9) (
          ∃ n8 : Int, ((sub (rowAt xs x6.4) 0 1 : Option (List V)) = some [V.int IntKind.i64 n8]) ∧ (
          ∃ l9 : List Pipe, ((xs : List (List V)) = pipeV l9) ∧ (
          (okL l9) ∧ (
          (((addI IntKind.i64 (mulI IntKind.i64 2 n8) 0 : Int) ≤ 9223372036854775807)) ∧ (
          need (headOkP 13 x6.1) (
          br (leN (x6.2 + 1) x6.3) (
            need (andB (leI 0 x6.4) (ltI x6.4 (lenL xs))) (
            need (okRow xs x6.4.toNat 9) (
            ∃ n10 : Int, ((sub (rowAt xs x6.4) 0 1 : Option (List V)) = some [V.int IntKind.i64 n10]) ∧ (
            ∃ l11 : List Pipe, ((xs : List (List V)) = pipeV l11) ∧ (
            (okL l11) ∧ (
            (((addI IntKind.i64 (mulI IntKind.i64 2 n10) 1 : Int) ≤ 9223372036854775807)) ∧ (
            need (headOkP 13 (List.take (0 + x6.2) x6.1 ++ [[V.int IntKind.i64 (statF l9 (addI IntKind.i64 (mulI IntKind.i64 2 n8) 0)).fst.1, V.int IntKind.i64 (statF l9 (addI IntKind.i64 (mulI IntKind.i64 2 n8) 0)).fst.2, V.int IntKind.i64 (statF l9 (addI IntKind.i64 (mulI IntKind.i64 2 n8) 0)).fst.3, V.int IntKind.i64 (statF l9 (addI IntKind.i64 (mulI IntKind.i64 2 n8) 0)).fst.4, V.int IntKind.i64 (statF l9 (addI IntKind.i64 (mulI IntKind.i64 2 n8) 0)).fst.5, V.int IntKind.i64 (statF l9 (addI IntKind.i64 (mulI IntKind.i64 2 n8) 0)).fst.6, V.int IntKind.i64 (statF l9 (addI IntKind.i64 (mulI IntKind.i64 2 n8) 0)).fst.7, V.int IntKind.i64 (statF l9 (addI IntKind.i64 (mulI IntKind.i64 2 n8) 0)).fst.8, V.int IntKind.i64 (statF l9 (addI IntKind.i64 (mulI IntKind.i64 2 n8) 0)).fst.9, V.str (statF l9 (addI IntKind.i64 (mulI IntKind.i64 2 n8) 0)).fst.10, V.str (statF l9 (addI IntKind.i64 (mulI IntKind.i64 2 n8) 0)).fst.11, V.str (statF l9 (addI IntKind.i64 (mulI IntKind.i64 2 n8) 0)).fst.12, V.str (statF l9 (addI IntKind.i64 (mulI IntKind.i64 2 n8) 0)).fst.13]] ++ List.drop (0 + x6.2 + 1) x6.1)) (
            br (leN (x6.2 + 1 + 1) x6.3) (
              ((rlsC.mk n xs : (rlsL I).C) = rlsC.mk n xs) ∧ (
              ∃ m'12 : Nat, (((m'12 : Nat) < m7)) ∧ (
              I (rlsC.mk n xs) (rlsX.mk [] 0 0 0) (rlsX.mk (List.take (0 + (x6.2 + 1)) (List.take (0 + x6.2) x6.1 ++ [[V.int IntKind.i64 (statF l9 (addI IntKind.i64 (mulI IntKind.i64 2 n8) 0)).fst.1, V.int IntKind.i64 (statF l9 (addI IntKind.i64 (mulI IntKind.i64 2 n8) 0)).fst.2, V.int IntKind.i64 (statF l9 (addI IntKind.i64 (mulI IntKind.i64 2 n8) 0)).fst.3, V.int IntKind.i64 (statF l9 (addI IntKind.i64 (mulI IntKind.i64 2 n8) 0)).fst.4, V.int IntKind.i64 (statF l9 (addI IntKind.i64 (mulI IntKind.i64 2 n8) 0)).fst.5, V.int IntKind.i64 (statF l9 (addI IntKind.i64 (mulI IntKind.i64 2 n8) 0)).fst.6, V.int IntKind.i64 (statF l9 (addI IntKind.i64 (mulI IntKind.i64 2 n8) 0)).fst.7, V.int IntKind.i64 (statF l9 (addI IntKind.i64 (mulI IntKind.i64 2 n8) 0)).fst.8, V.int IntKind.i64 (statF l9 (addI IntKind.i64 (mulI IntKind.i64 2 n8) 0)).fst.9, V.str (statF l9 (addI IntKind.i64 (mulI IntKind.i64 2 n8) 0)).fst.10, V.str (statF l9 (addI IntKind.i64 (mulI IntKind.i64 2 n8) 0)).fst.11, V.str (statF l9 (addI IntKind.i64 (mulI IntKind.i64 2 n8) 0)).fst.12, V.str (statF l9 (addI IntKind.i64 (mulI IntKind.i64 2 n8) 0)).fst.13]] ++ List.drop (0 + x6.2 + 1) x6.1) ++ [[V.int IntKind.i64 (statF l11 (addI IntKind.i64 (mulI IntKind.i64 2 n10) (addI IntKind.i64 0 1))).fst.1, V.int IntKind.i64 (statF l11 (addI IntKind.i64 (mulI IntKind.i64 2 n10) (addI IntKind.i64 0 1))).fst.2, V.int IntKind.i64 (statF l11 (addI IntKind.i64 (mulI IntKind.i64 2 n10) (addI IntKind.i64 0 1))).fst.3, V.int IntKind.i64 (statF l11 (addI IntKind.i64 (mulI IntKind.i64 2 n10) (addI IntKind.i64 0 1))).fst.4, V.int IntKind.i64 (statF l11 (addI IntKind.i64 (mulI IntKind.i64 2 n10) (addI IntKind.i64 0 1))).fst.5, V.int IntKind.i64 (statF l11 (addI IntKind.i64 (mulI IntKind.i64 2 n10) (addI IntKind.i64 0 1))).fst.6, V.int IntKind.i64 (statF l11 (addI IntKind.i64 (mulI IntKind.i64 2 n10) (addI IntKind.i64 0 1))).fst.7, V.int IntKind.i64 (statF l11 (addI IntKind.i64 (mulI IntKind.i64 2 n10) (addI IntKind.i64 0 1))).fst.8, V.int IntKind.i64 (statF l11 (addI IntKind.i64 (mulI IntKind.i64 2 n10) (addI IntKind.i64 0 1))).fst.9, V.str (statF l11 (addI IntKind.i64 (mulI IntKind.i64 2 n10) (addI IntKind.i64 0 1))).fst.10, V.str (statF l11 (addI IntKind.i64 (mulI IntKind.i64 2 n10) (addI IntKind.i64 0 1))).fst.11, V.str (statF l11 (addI IntKind.i64 (mulI IntKind.i64 2 n10) (addI IntKind.i64 0 1))).fst.12, V.str (statF l11 (addI IntKind.i64 (mulI IntKind.i64 2 n10) (addI IntKind.i64 0 1))).fst.13]] ++ List.drop (0 + (x6.2 + 1) + 1) (List.take (0 + x6.2) x6.1 ++ [[V.int IntKind.i64 (statF l9 (addI IntKind.i64 (mulI IntKind.i64 2 n8) 0)).fst.1, V.int IntKind.i64 (statF l9 (addI IntKind.i64 (mulI IntKind.i64 2 n8) 0)).fst.2, V.int IntKind.i64 (statF l9 (addI IntKind.i64 (mulI IntKind.i64 2 n8) 0)).fst.3, V.int IntKind.i64 (statF l9 (addI IntKind.i64 (mulI IntKind.i64 2 n8) 0)).fst.4, V.int IntKind.i64 (statF l9 (addI IntKind.i64 (mulI IntKind.i64 2 n8) 0)).fst.5, V.int IntKind.i64 (statF l9 (addI IntKind.i64 (mulI IntKind.i64 2 n8) 0)).fst.6, V.int IntKind.i64 (statF l9 (addI IntKind.i64 (mulI IntKind.i64 2 n8) 0)).fst.7, V.int IntKind.i64 (statF l9 (addI IntKind.i64 (mulI IntKind.i64 2 n8) 0)).fst.8, V.int IntKind.i64 (statF l9 (addI IntKind.i64 (mulI IntKind.i64 2 n8) 0)).fst.9, V.str (statF l9 (addI IntKind.i64 (mulI IntKind.i64 2 n8) 0)).fst.10, V.str (statF l9 (addI IntKind.i64 (mulI IntKind.i64 2 n8) 0)).fst.11, V.str (statF l9 (addI IntKind.i64 (mulI IntKind.i64 2 n8) 0)).fst.12, V.str (statF l9 (addI IntKind.i64 (mulI IntKind.i64 2 n8) 0)).fst.13]] ++ List.drop (0 + x6.2 + 1) x6.1)) (x6.2 + 1 + 1) x6.3 (addI IntKind.i64 x6.4 1)) m'12))) (
              need (eqN (0 + (x6.2 + 1)) (List.take (0 + x6.2) x6.1 ++ [[V.int IntKind.i64 (statF l9 (addI IntKind.i64 (mulI IntKind.i64 2 n8) 0)).fst.1, V.int IntKind.i64 (statF l9 (addI IntKind.i64 (mulI IntKind.i64 2 n8) 0)).fst.2, V.int IntKind.i64 (statF l9 (addI IntKind.i64 (mulI IntKind.i64 2 n8) 0)).fst.3, V.int IntKind.i64 (statF l9 (addI IntKind.i64 (mulI IntKind.i64 2 n8) 0)).fst.4, V.int IntKind.i64 (statF l9 (addI IntKind.i64 (mulI IntKind.i64 2 n8) 0)).fst.5, V.int IntKind.i64 (statF l9 (addI IntKind.i64 (mulI IntKind.i64 2 n8) 0)).fst.6, V.int IntKind.i64 (statF l9 (addI IntKind.i64 (mulI IntKind.i64 2 n8) 0)).fst.7, V.int IntKind.i64 (statF l9 (addI IntKind.i64 (mulI IntKind.i64 2 n8) 0)).fst.8, V.int IntKind.i64 (statF l9 (addI IntKind.i64 (mulI IntKind.i64 2 n8) 0)).fst.9, V.str (statF l9 (addI IntKind.i64 (mulI IntKind.i64 2 n8) 0)).fst.10, V.str (statF l9 (addI IntKind.i64 (mulI IntKind.i64 2 n8) 0)).fst.11, V.str (statF l9 (addI IntKind.i64 (mulI IntKind.i64 2 n8) 0)).fst.12, V.str (statF l9 (addI IntKind.i64 (mulI IntKind.i64 2 n8) 0)).fst.13]] ++ List.drop (0 + x6.2 + 1) x6.1).length) (
              need (leN ((x6.2 + 1 + 1) * 136) 140737488355328) (
              ((rlsC.mk n xs : (rlsL I).C) = rlsC.mk n xs) ∧ (
              ∃ m'12 : Nat, (((m'12 : Nat) < m7)) ∧ (
              I (rlsC.mk n xs) (rlsX.mk [] 0 0 0) (rlsX.mk (List.drop 0 (List.take (0 + x6.2) x6.1 ++ [[V.int IntKind.i64 (statF l9 (addI IntKind.i64 (mulI IntKind.i64 2 n8) 0)).fst.1, V.int IntKind.i64 (statF l9 (addI IntKind.i64 (mulI IntKind.i64 2 n8) 0)).fst.2, V.int IntKind.i64 (statF l9 (addI IntKind.i64 (mulI IntKind.i64 2 n8) 0)).fst.3, V.int IntKind.i64 (statF l9 (addI IntKind.i64 (mulI IntKind.i64 2 n8) 0)).fst.4, V.int IntKind.i64 (statF l9 (addI IntKind.i64 (mulI IntKind.i64 2 n8) 0)).fst.5, V.int IntKind.i64 (statF l9 (addI IntKind.i64 (mulI IntKind.i64 2 n8) 0)).fst.6, V.int IntKind.i64 (statF l9 (addI IntKind.i64 (mulI IntKind.i64 2 n8) 0)).fst.7, V.int IntKind.i64 (statF l9 (addI IntKind.i64 (mulI IntKind.i64 2 n8) 0)).fst.8, V.int IntKind.i64 (statF l9 (addI IntKind.i64 (mulI IntKind.i64 2 n8) 0)).fst.9, V.str (statF l9 (addI IntKind.i64 (mulI IntKind.i64 2 n8) 0)).fst.10, V.str (statF l9 (addI IntKind.i64 (mulI IntKind.i64 2 n8) 0)).fst.11, V.str (statF l9 (addI IntKind.i64 (mulI IntKind.i64 2 n8) 0)).fst.12, V.str (statF l9 (addI IntKind.i64 (mulI IntKind.i64 2 n8) 0)).fst.13]] ++ List.drop (0 + x6.2 + 1) x6.1) ++ [[V.int IntKind.i64 (statF l11 (addI IntKind.i64 (mulI IntKind.i64 2 n10) (addI IntKind.i64 0 1))).fst.1, V.int IntKind.i64 (statF l11 (addI IntKind.i64 (mulI IntKind.i64 2 n10) (addI IntKind.i64 0 1))).fst.2, V.int IntKind.i64 (statF l11 (addI IntKind.i64 (mulI IntKind.i64 2 n10) (addI IntKind.i64 0 1))).fst.3, V.int IntKind.i64 (statF l11 (addI IntKind.i64 (mulI IntKind.i64 2 n10) (addI IntKind.i64 0 1))).fst.4, V.int IntKind.i64 (statF l11 (addI IntKind.i64 (mulI IntKind.i64 2 n10) (addI IntKind.i64 0 1))).fst.5, V.int IntKind.i64 (statF l11 (addI IntKind.i64 (mulI IntKind.i64 2 n10) (addI IntKind.i64 0 1))).fst.6, V.int IntKind.i64 (statF l11 (addI IntKind.i64 (mulI IntKind.i64 2 n10) (addI IntKind.i64 0 1))).fst.7, V.int IntKind.i64 (statF l11 (addI IntKind.i64 (mulI IntKind.i64 2 n10) (addI IntKind.i64 0 1))).fst.8, V.int IntKind.i64 (statF l11 (addI IntKind.i64 (mulI IntKind.i64 2 n10) (addI IntKind.i64 0 1))).fst.9, V.str (statF l11 (addI IntKind.i64 (mulI IntKind.i64 2 n10) (addI IntKind.i64 0 1))).fst.10, V.str (statF l11 (addI IntKind.i64 (mulI IntKind.i64 2 n10) (addI IntKind.i64 0 1))).fst.11, V.str (statF l11 (addI IntKind.i64 (mulI IntKind.i64 2 n10) (addI IntKind.i64 0 1))).fst.12, V.str (statF l11 (addI IntKind.i64 (mulI IntKind.i64 2 n10) (addI IntKind.i64 0 1))).fst.13]]) (x6.2 + 1 + 1) (x6.2 + 1 + 1) (addI IntKind.i64 x6.4 1)) m'12))))))))))))) (
            need (eqN (0 + x6.2) x6.1.length) (
            need (leN ((x6.2 + 1) * 136) 140737488355328) (
            need (andB (leI 0 x6.4) (ltI x6.4 (lenL xs))) (
            need (okRow xs x6.4.toNat 9) (
            ∃ n10 : Int, ((sub (rowAt xs x6.4) 0 1 : Option (List V)) = some [V.int IntKind.i64 n10]) ∧ (
            ∃ l11 : List Pipe, ((xs : List (List V)) = pipeV l11) ∧ (
            (okL l11) ∧ (
            (((addI IntKind.i64 (mulI IntKind.i64 2 n10) 1 : Int) ≤ 9223372036854775807)) ∧ (
            need (headOkP 13 (List.drop 0 x6.1 ++ [[V.int IntKind.i64 (statF l9 (addI IntKind.i64 (mulI IntKind.i64 2 n8) 0)).fst.1, V.int IntKind.i64 (statF l9 (addI IntKind.i64 (mulI IntKind.i64 2 n8) 0)).fst.2, V.int IntKind.i64 (statF l9 (addI IntKind.i64 (mulI IntKind.i64 2 n8) 0)).fst.3, V.int IntKind.i64 (statF l9 (addI IntKind.i64 (mulI IntKind.i64 2 n8) 0)).fst.4, V.int IntKind.i64 (statF l9 (addI IntKind.i64 (mulI IntKind.i64 2 n8) 0)).fst.5, V.int IntKind.i64 (statF l9 (addI IntKind.i64 (mulI IntKind.i64 2 n8) 0)).fst.6, V.int IntKind.i64 (statF l9 (addI IntKind.i64 (mulI IntKind.i64 2 n8) 0)).fst.7, V.int IntKind.i64 (statF l9 (addI IntKind.i64 (mulI IntKind.i64 2 n8) 0)).fst.8, V.int IntKind.i64 (statF l9 (addI IntKind.i64 (mulI IntKind.i64 2 n8) 0)).fst.9, V.str (statF l9 (addI IntKind.i64 (mulI IntKind.i64 2 n8) 0)).fst.10, V.str (statF l9 (addI IntKind.i64 (mulI IntKind.i64 2 n8) 0)).fst.11, V.str (statF l9 (addI IntKind.i64 (mulI IntKind.i64 2 n8) 0)).fst.12, V.str (statF l9 (addI IntKind.i64 (mulI IntKind.i64 2 n8) 0)).fst.13]])) (
            br (leN (x6.2 + 1 + 1) (x6.2 + 1)) (
              ((rlsC.mk n xs : (rlsL I).C) = rlsC.mk n xs) ∧ (
              ∃ m'12 : Nat, (((m'12 : Nat) < m7)) ∧ (
              I (rlsC.mk n xs) (rlsX.mk [] 0 0 0) (rlsX.mk (List.take (0 + (x6.2 + 1)) (List.drop 0 x6.1 ++ [[V.int IntKind.i64 (statF l9 (addI IntKind.i64 (mulI IntKind.i64 2 n8) 0)).fst.1, V.int IntKind.i64 (statF l9 (addI IntKind.i64 (mulI IntKind.i64 2 n8) 0)).fst.2, V.int IntKind.i64 (statF l9 (addI IntKind.i64 (mulI IntKind.i64 2 n8) 0)).fst.3, V.int IntKind.i64 (statF l9 (addI IntKind.i64 (mulI IntKind.i64 2 n8) 0)).fst.4, V.int IntKind.i64 (statF l9 (addI IntKind.i64 (mulI IntKind.i64 2 n8) 0)).fst.5, V.int IntKind.i64 (statF l9 (addI IntKind.i64 (mulI IntKind.i64 2 n8) 0)).fst.6, V.int IntKind.i64 (statF l9 (addI IntKind.i64 (mulI IntKind.i64 2 n8) 0)).fst.7, V.int IntKind.i64 (statF l9 (addI IntKind.i64 (mulI IntKind.i64 2 n8) 0)).fst.8, V.int IntKind.i64 (statF l9 (addI IntKind.i64 (mulI IntKind.i64 2 n8) 0)).fst.9, V.str (statF l9 (addI IntKind.i64 (mulI IntKind.i64 2 n8) 0)).fst.10, V.str (statF l9 (addI IntKind.i64 (mulI IntKind.i64 2 n8) 0)).fst.11, V.str (statF l9 (addI IntKind.i64 (mulI IntKind.i64 2 n8) 0)).fst.12, V.str (statF l9 (addI IntKind.i64 (mulI IntKind.i64 2 n8) 0)).fst.13]]) ++ [[V.int IntKind.i64 (statF l11 (addI IntKind.i64 (mulI IntKind.i64 2 n10) (addI IntKind.i64 0 1))).fst.1, V.int IntKind.i64 (statF l11 (addI IntKind.i64 (mulI IntKind.i64 2 n10) (addI IntKind.i64 0 1))).fst.2, V.int IntKind.i64 (statF l11 (addI IntKind.i64 (mulI IntKind.i64 2 n10) (addI IntKind.i64 0 1))).fst.3, V.int IntKind.i64 (statF l11 (addI IntKind.i64 (mulI IntKind.i64 2 n10) (addI IntKind.i64 0 1))).fst.4, V.int IntKind.i64 (statF l11 (addI IntKind.i64 (mulI IntKind.i64 2 n10) (addI IntKind.i64 0 1))).fst.5, V.int IntKind.i64 (statF l11 (addI IntKind.i64 (mulI IntKind.i64 2 n10) (addI IntKind.i64 0 1))).fst.6, V.int IntKind.i64 (statF l11 (addI IntKind.i64 (mulI IntKind.i64 2 n10) (addI IntKind.i64 0 1))).fst.7, V.int IntKind.i64 (statF l11 (addI IntKind.i64 (mulI IntKind.i64 2 n10) (addI IntKind.i64 0 1))).fst.8, V.int IntKind.i64 (statF l11 (addI IntKind.i64 (mulI IntKind.i64 2 n10) (addI IntKind.i64 0 1))).fst.9, V.str (statF l11 (addI IntKind.i64 (mulI IntKind.i64 2 n10) (addI IntKind.i64 0 1))).fst.10, V.str (statF l11 (addI IntKind.i64 (mulI IntKind.i64 2 n10) (addI IntKind.i64 0 1))).fst.11, V.str (statF l11 (addI IntKind.i64 (mulI IntKind.i64 2 n10) (addI IntKind.i64 0 1))).fst.12, V.str (statF l11 (addI IntKind.i64 (mulI IntKind.i64 2 n10) (addI IntKind.i64 0 1))).fst.13]] ++ List.drop (0 + (x6.2 + 1) + 1) (List.drop 0 x6.1 ++ [[V.int IntKind.i64 (statF l9 (addI IntKind.i64 (mulI IntKind.i64 2 n8) 0)).fst.1, V.int IntKind.i64 (statF l9 (addI IntKind.i64 (mulI IntKind.i64 2 n8) 0)).fst.2, V.int IntKind.i64 (statF l9 (addI IntKind.i64 (mulI IntKind.i64 2 n8) 0)).fst.3, V.int IntKind.i64 (statF l9 (addI IntKind.i64 (mulI IntKind.i64 2 n8) 0)).fst.4, V.int IntKind.i64 (statF l9 (addI IntKind.i64 (mulI IntKind.i64 2 n8) 0)).fst.5, V.int IntKind.i64 (statF l9 (addI IntKind.i64 (mulI IntKind.i64 2 n8) 0)).fst.6, V.int IntKind.i64 (statF l9 (addI IntKind.i64 (mulI IntKind.i64 2 n8) 0)).fst.7, V.int IntKind.i64 (statF l9 (addI IntKind.i64 (mulI IntKind.i64 2 n8) 0)).fst.8, V.int IntKind.i64 (statF l9 (addI IntKind.i64 (mulI IntKind.i64 2 n8) 0)).fst.9, V.str (statF l9 (addI IntKind.i64 (mulI IntKind.i64 2 n8) 0)).fst.10, V.str (statF l9 (addI IntKind.i64 (mulI IntKind.i64 2 n8) 0)).fst.11, V.str (statF l9 (addI IntKind.i64 (mulI IntKind.i64 2 n8) 0)).fst.12, V.str (statF l9 (addI IntKind.i64 (mulI IntKind.i64 2 n8) 0)).fst.13]])) (x6.2 + 1 + 1) (x6.2 + 1) (addI IntKind.i64 x6.4 1)) m'12))) (
              need (eqN (0 + (x6.2 + 1)) (List.drop 0 x6.1 ++ [[V.int IntKind.i64 (statF l9 (addI IntKind.i64 (mulI IntKind.i64 2 n8) 0)).fst.1, V.int IntKind.i64 (statF l9 (addI IntKind.i64 (mulI IntKind.i64 2 n8) 0)).fst.2, V.int IntKind.i64 (statF l9 (addI IntKind.i64 (mulI IntKind.i64 2 n8) 0)).fst.3, V.int IntKind.i64 (statF l9 (addI IntKind.i64 (mulI IntKind.i64 2 n8) 0)).fst.4, V.int IntKind.i64 (statF l9 (addI IntKind.i64 (mulI IntKind.i64 2 n8) 0)).fst.5, V.int IntKind.i64 (statF l9 (addI IntKind.i64 (mulI IntKind.i64 2 n8) 0)).fst.6, V.int IntKind.i64 (statF l9 (addI IntKind.i64 (mulI IntKind.i64 2 n8) 0)).fst.7, V.int IntKind.i64 (statF l9 (addI IntKind.i64 (mulI IntKind.i64 2 n8) 0)).fst.8, V.int IntKind.i64 (statF l9 (addI IntKind.i64 (mulI IntKind.i64 2 n8) 0)).fst.9, V.str (statF l9 (addI IntKind.i64 (mulI IntKind.i64 2 n8) 0)).fst.10, V.str (statF l9 (addI IntKind.i64 (mulI IntKind.i64 2 n8) 0)).fst.11, V.str (statF l9 (addI IntKind.i64 (mulI IntKind.i64 2 n8) 0)).fst.12, V.str (statF l9 (addI IntKind.i64 (mulI IntKind.i64 2 n8) 0)).fst.13]]).length) (
              need (leN ((x6.2 + 1 + 1) * 136) 140737488355328) (
              ((rlsC.mk n xs : (rlsL I).C) = rlsC.mk n xs) ∧ (
              ∃ m'12 : Nat, (((m'12 : Nat) < m7)) ∧ (
              I (rlsC.mk n xs) (rlsX.mk [] 0 0 0) (rlsX.mk (List.drop 0 (List.drop 0 x6.1 ++ [[V.int IntKind.i64 (statF l9 (addI IntKind.i64 (mulI IntKind.i64 2 n8) 0)).fst.1, V.int IntKind.i64 (statF l9 (addI IntKind.i64 (mulI IntKind.i64 2 n8) 0)).fst.2, V.int IntKind.i64 (statF l9 (addI IntKind.i64 (mulI IntKind.i64 2 n8) 0)).fst.3, V.int IntKind.i64 (statF l9 (addI IntKind.i64 (mulI IntKind.i64 2 n8) 0)).fst.4, V.int IntKind.i64 (statF l9 (addI IntKind.i64 (mulI IntKind.i64 2 n8) 0)).fst.5, V.int IntKind.i64 (statF l9 (addI IntKind.i64 (mulI IntKind.i64 2 n8) 0)).fst.6, V.int IntKind.i64 (statF l9 (addI IntKind.i64 (mulI IntKind.i64 2 n8) 0)).fst.7, V.int IntKind.i64 (statF l9 (addI IntKind.i64 (mulI IntKind.i64 2 n8) 0)).fst.8, V.int IntKind.i64 (statF l9 (addI IntKind.i64 (mulI IntKind.i64 2 n8) 0)).fst.9, V.str (statF l9 (addI IntKind.i64 (mulI IntKind.i64 2 n8) 0)).fst.10, V.str (statF l9 (addI IntKind.i64 (mulI IntKind.i64 2 n8) 0)).fst.11, V.str (statF l9 (addI IntKind.i64 (mulI IntKind.i64 2 n8) 0)).fst.12, V.str (statF l9 (addI IntKind.i64 (mulI IntKind.i64 2 n8) 0)).fst.13]]) ++ [[V.int IntKind.i64 (statF l11 (addI IntKind.i64 (mulI IntKind.i64 2 n10) (addI IntKind.i64 0 1))).fst.1, V.int IntKind.i64 (statF l11 (addI IntKind.i64 (mulI IntKind.i64 2 n10) (addI IntKind.i64 0 1))).fst.2, V.int IntKind.i64 (statF l11 (addI IntKind.i64 (mulI IntKind.i64 2 n10) (addI IntKind.i64 0 1))).fst.3, V.int IntKind.i64 (statF l11 (addI IntKind.i64 (mulI IntKind.i64 2 n10) (addI IntKind.i64 0 1))).fst.4, V.int IntKind.i64 (statF l11 (addI IntKind.i64 (mulI IntKind.i64 2 n10) (addI IntKind.i64 0 1))).fst.5, V.int IntKind.i64 (statF l11 (addI IntKind.i64 (mulI IntKind.i64 2 n10) (addI IntKind.i64 0 1))).fst.6, V.int IntKind.i64 (statF l11 (addI IntKind.i64 (mulI IntKind.i64 2 n10) (addI IntKind.i64 0 1))).fst.7, V.int IntKind.i64 (statF l11 (addI IntKind.i64 (mulI IntKind.i64 2 n10) (addI IntKind.i64 0 1))).fst.8, V.int IntKind.i64 (statF l11 (addI IntKind.i64 (mulI IntKind.i64 2 n10) (addI IntKind.i64 0 1))).fst.9, V.str (statF l11 (addI IntKind.i64 (mulI IntKind.i64 2 n10) (addI IntKind.i64 0 1))).fst.10, V.str (statF l11 (addI IntKind.i64 (mulI IntKind.i64 2 n10) (addI IntKind.i64 0 1))).fst.11, V.str (statF l11 (addI IntKind.i64 (mulI IntKind.i64 2 n10) (addI IntKind.i64 0 1))).fst.12, V.str (statF l11 (addI IntKind.i64 (mulI IntKind.i64 2 n10) (addI IntKind.i64 0 1))).fst.13]]) (x6.2 + 1 + 1) (x6.2 + 1 + 1) (addI IntKind.i64 x6.4 1)) m'12))))))))))))))))))))))) (
          K (V.tup [V.lst (List.take x6.2 (List.drop 0 x6.1)), V.int IntKind.i64 0]) [])))))
theorem rls_vc (n : Int) (xs : List (List V)) (id : Int) (I : rlsC → rlsX → rlsX → Nat → Prop) (K : V → List Bk → Prop) : vcF Tryd.prog cfgN (ctOf [(43, atCon), (22, statCon)]) (lpOf [(7, rlsL I), (10, unrL 3)]) 24 [.agg [.int .i64 n, .lst xs], .int .i64 id] [] K = (
  br (notB (eqI id 1)) (
    ∃ l5 : List Pipe, ((xs : List (List V)) = pipeV l5) ∧ (
    (((l5.length : Nat) ≤ 100000)) ∧ (
    (((id : Int) ≤ 9223372036854775807)) ∧ (
    br (ltI (atF l5 id) 0) (
      K (V.tup [V.lst [], V.int IntKind.i64 8]) []) (rls_vc_1 n xs id I K))))) (rls_vc_1 n xs id I K)) := by kernel_rfl

theorem ds_vc (xs ys : List (List V)) (I : dsC → dsX → dsX → Nat → Prop) (K : V → List Bk → Prop) : vcF Tryd.prog cfgN (ctOf []) (lpOf [(4, dsL I)]) 25 [.lst xs, .lst ys] [] K = (
  br (notB (eqI (lenL xs) (lenL ys))) (
    K (V.bool false) []) (
    (∃ m4 : Nat, (((m4 : Nat) < 18446744073709551616)) ∧ (
    I (dsC.mk xs ys) (dsX.mk 0) (dsX.mk 0) m4)) ∧ (
    ∀ x4 : (dsL I).X, ∀ m5 : Nat, (I (dsC.mk xs ys) (dsX.mk 0) x4 m5) → (
    br (ltI x4.1 (lenL xs)) (
      need (andB (leI 0 x4.1) (ltI x4.1 (lenL xs))) (
      need (okRow xs x4.1.toNat 13) (
      ∃ n6 : Int, ∃ n7 : Int, ∃ n8 : Int, ∃ n9 : Int, ∃ n10 : Int, ∃ n11 : Int, ∃ n12 : Int, ∃ n13 : Int, ∃ n14 : Int, ∃ s15 : List UInt8, ∃ s16 : List UInt8, ∃ s17 : List UInt8, ∃ s18 : List UInt8, ((sub (rowAt xs x4.1) 0 13 : Option (List V)) = some [V.int IntKind.i64 n6, V.int IntKind.i64 n7, V.int IntKind.i64 n8, V.int IntKind.i64 n9, V.int IntKind.i64 n10, V.int IntKind.i64 n11, V.int IntKind.i64 n12, V.int IntKind.i64 n13, V.int IntKind.i64 n14, V.str s15, V.str s16, V.str s17, V.str s18]) ∧ (
      need (andB (leI 0 x4.1) (ltI x4.1 (lenL ys))) (
      need (okRow ys x4.1.toNat 13) (
      ∃ n19 : Int, ∃ n20 : Int, ∃ n21 : Int, ∃ n22 : Int, ∃ n23 : Int, ∃ n24 : Int, ∃ n25 : Int, ∃ n26 : Int, ∃ n27 : Int, ∃ s28 : List UInt8, ∃ s29 : List UInt8, ∃ s30 : List UInt8, ∃ s31 : List UInt8, ((sub (rowAt ys x4.1) 0 13 : Option (List V)) = some [V.int IntKind.i64 n19, V.int IntKind.i64 n20, V.int IntKind.i64 n21, V.int IntKind.i64 n22, V.int IntKind.i64 n23, V.int IntKind.i64 n24, V.int IntKind.i64 n25, V.int IntKind.i64 n26, V.int IntKind.i64 n27, V.str s28, V.str s29, V.str s30, V.str s31]) ∧ (
      br (!(decide (n6 = n19) && (decide (n7 = n20) && (decide (n8 = n21) && (decide (n9 = n22) && (decide (n10 = n23) && true)) && (decide (n11 = n24) && (decide (n12 = n25) && (decide (n13 = n26) && (decide (n14 = n27) && (strEq s15 s28 && (strEq s16 s29 && (strEq s17 s30 && (strEq s18 s31 && true)))))))))))) (
        K (V.bool false) []) (
        ((dsC.mk xs ys : (dsL I).C) = dsC.mk xs ys) ∧ (
        ∃ m'32 : Nat, (((m'32 : Nat) < m5)) ∧ (
        I (dsC.mk xs ys) (dsX.mk 0) (dsX.mk (addI IntKind.i64 x4.1 1)) m'32)))))))))) (
      K (V.bool true) []))))) := by kernel_rfl

end Go.Proofs.YtjplfafojmkpbaaDoor
namespace Go.Proofs.YtjplfafojmkpbaaDoor
open Go.RowKit
set_option maxRecDepth 100000
set_option linter.unusedVariables false
set_option linter.unusedSimpArgs false
theorem digs_len (b : Nat) : ∀ (k u : Nat), (digs b k u).length ≤ k
  | 0, u => by simp [digs]
  | k + 1, u => by
    rcases Nat.lt_or_ge u b with h | h
    · rw [digs_lt h]; simp
    · rw [digs_ge h]
      have := digs_len b k (u / b)
      simp; omega
theorem text_len {n : Int} (h : 0 ≤ n) : (textN 10 n).length ≤ 64 := by
  obtain ⟨u, rfl⟩ := Int.eq_ofNat_of_zero_le h
  exact digs_len 10 64 u
theorem nm_con {n : Nat} (hn : 2 ≤ n) : ConOk (evalF Tryd.prog cfgN n) 42 nameCon2 := by
  intro vs bs K h
  unfold nameCon2 at h
  split at h
  · rename_i id
    obtain ⟨h1, h2, hK⟩ := h
    refine run_of (lp := lpOf []) (by omega) (fun k _ => noCt_ok _) ?_
    rw [nm_vc]
    have ht := text_len (n := id / 2) (by omega)
    have hk := mod2 (id := id)
    rw [quoI_i64 (by omega) h2 (by omega), tmod_pos (by omega)]
    unfold modI at hk
    unfold nameF at hK
    rw [need_iff]; refine ⟨by simp [inI64]; omega, ?_⟩
    rcases hk with hk | hk
    · rw [hk] at hK ⊢
      rw [need_iff]; refine ⟨rfl, ?_⟩
      rw [need_iff]; refine ⟨rfl, ?_⟩
      rw [need_iff]; refine ⟨by rw [show cutS [97, 98] 0 (addI .i64 0 1) = [97] from rfl]; simp only [br_iff, need_iff, andB_t, andB_f, orB_t, orB_f, notB_t, notB_f, leI_t, leI_f, ltI_t, ltI_f, eqI_t, eqI_f, leN_t, leN_f, eqN_t, eqN_f, eqS_t, eqS_f, eqB_t, eqB_f, catOk_t, leC_t, List.length_singleton]; omega, hK⟩
    · rw [hk] at hK ⊢
      rw [need_iff]; refine ⟨rfl, ?_⟩
      rw [need_iff]; refine ⟨rfl, ?_⟩
      rw [need_iff]; refine ⟨by rw [show cutS [97, 98] 1 (addI .i64 1 1) = [98] from rfl]; simp only [br_iff, need_iff, andB_t, andB_f, orB_t, orB_f, notB_t, notB_f, leI_t, leI_f, ltI_t, ltI_f, eqI_t, eqI_f, leN_t, leN_f, eqN_t, eqN_f, eqS_t, eqS_f, eqB_t, eqB_f, catOk_t, leC_t, List.length_singleton]; omega, hK⟩
  · exact h.elim
def dgI (T : List UInt8) (x : dgX) (m : Nat) : Prop := ∃ u f : Nat, x.k = (u : Int) ∧ u ≤ 9223372036854775807 ∧ u = m ∧ x.s.length + f ≤ 64 ∧ (0 < u → 1 ≤ f ∧ u < 10 ^ f ∧ digs 10 f u ++ x.s = T) ∧ (u = 0 → x.s = T)
theorem dg_con {n : Nat} (hn : 1 ≤ n) : ConOk (evalF Tryd.prog cfgN n) 52 digCon := by
  intro vs bs K h
  unfold digCon at h
  split at h
  · rename_i a
    obtain ⟨h1, h2, hK⟩ := h
    refine run_of (lp := lpOf [(3, dgL fun _ _ x m => dgI (textN 10 a) x m)]) hn (fun k _ => noCt_ok _) ?_
    rw [dg_vc]
    obtain ⟨u0, rfl⟩ := Int.eq_ofNat_of_zero_le (a := a) (by omega)
    have hp : (9223372036854775807 : Nat) < 10 ^ 64 := by decide
    refine ⟨⟨u0, by omega, u0, 64, rfl, by omega, rfl, by simp, fun h => ⟨by omega, by omega, by simp; rfl⟩, fun h => by omega⟩, ?_⟩
    rintro ⟨s, k⟩ m ⟨u, f, hk, hu, hm, hf, hpos, hz⟩
    dsimp only at hk hf hpos hz ⊢
    subst hk; subst hm
    rw [br_iff]
    refine ⟨fun g => ?_, fun g => ?_⟩
    · have g : 0 < u := by simp only [br_iff, need_iff, andB_t, andB_f, orB_t, orB_f, notB_t, notB_f, leI_t, leI_f, ltI_t, ltI_f, eqI_t, eqI_f, leN_t, leN_f, eqN_t, eqN_f, eqS_t, eqS_f, eqB_t, eqB_f, catOk_t, leC_t] at g; omega
      obtain ⟨f1, f2, f3⟩ := hpos g
      have hb : UInt8.ofNat (wrapI .u8 (addI .i64 48 ((u : Int).tmod 10))).toNat = dgt (u % 10) := by
        rw [tmod_pos (by omega), addI_i64 (by omega) (by omega)]
        unfold wrapI
        rw [wrapU8 (by omega) (by omega)]
        have h10 : u % 10 < 10 := Nat.mod_lt _ (by omega)
        have : Nat.blt (u % 10) 10 = true := by rw [Nat.blt_eq]; exact h10
        unfold dgt
        rw [this]
        congr 1
      rw [hb, quoI_i64 (by omega) (by omega) (by omega)]
      rw [need_iff]; refine ⟨by simp only [br_iff, need_iff, andB_t, andB_f, orB_t, orB_f, notB_t, notB_f, leI_t, leI_f, ltI_t, ltI_f, eqI_t, eqI_f, leN_t, leN_f, eqN_t, eqN_f, eqS_t, eqS_f, eqB_t, eqB_f, catOk_t, leC_t, List.length_singleton]; omega, rfl, u / 10, by omega, u / 10, f - 1, by simp only; omega, by omega, rfl, by simp; omega, fun h0 => ?_, fun h0 => ?_⟩
      · obtain ⟨g', rfl⟩ : ∃ g', f = g' + 1 := ⟨f - 1, by omega⟩
        rw [digs_ge (by omega)] at f3
        have q1 : u / 10 < 10 ^ g' := by rw [Nat.div_lt_iff_lt_mul (by omega), ← Nat.pow_succ]; exact f2
        refine ⟨?_, q1, by rw [← f3]; simp⟩
        rcases Nat.eq_zero_or_pos g' with rfl | h'
        · simp at q1; omega
        · exact h'
      · obtain ⟨g', rfl⟩ : ∃ g', f = g' + 1 := ⟨f - 1, by omega⟩
        rw [digs_lt (by omega)] at f3
        rw [← f3, Nat.mod_eq_of_lt (by omega)]; rfl
    · have : u = 0 := by simp only [br_iff, need_iff, andB_t, andB_f, orB_t, orB_f, notB_t, notB_f, leI_t, leI_f, ltI_t, ltI_f, eqI_t, eqI_f, leN_t, leN_f, eqN_t, eqN_f, eqS_t, eqS_f, eqB_t, eqB_f, catOk_t, leC_t] at g; omega
      rw [hz this]; exact hK
  · exact h.elim
theorem rnm_con {n : Nat} (hn : 2 ≤ n) : ConOk (evalF Tryd.prog cfgN n) 44 nameCon2 := by
  intro vs bs K h
  unfold nameCon2 at h
  split at h
  · rename_i id
    obtain ⟨h1, h2, hK⟩ := h
    refine run_of (lp := lpOf []) (by omega) (ct := ctOf [(52, digCon)]) (fun k hk => ctOf_ok (ctOf_cons (dg_con (by omega)) (ctOf_nil _))) ?_
    rw [rnm_vc]
    have ht := text_len (n := id / 2) (by omega)
    rw [quoI_i64 (by omega) h2 (by omega), tmod_pos (by omega)]
    unfold nameF at hK
    rw [br_iff]
    refine ⟨fun g => ⟨by omega, by omega, ?_⟩, fun g => ⟨by omega, by omega, ?_⟩⟩
    · rw [if_pos (by simp only [br_iff, need_iff, andB_t, andB_f, orB_t, orB_f, notB_t, notB_f, leI_t, leI_f, ltI_t, ltI_f, eqI_t, eqI_f, leN_t, leN_f, eqN_t, eqN_f, eqS_t, eqS_f, eqB_t, eqB_f, catOk_t, leC_t] at g; exact g)] at hK
      rw [need_iff]; exact ⟨by simp only [br_iff, need_iff, andB_t, andB_f, orB_t, orB_f, notB_t, notB_f, leI_t, leI_f, ltI_t, ltI_f, eqI_t, eqI_f, leN_t, leN_f, eqN_t, eqN_f, eqS_t, eqS_f, eqB_t, eqB_f, catOk_t, leC_t, List.length_singleton]; omega, hK⟩
    · rw [if_neg (by simp only [br_iff, need_iff, andB_t, andB_f, orB_t, orB_f, notB_t, notB_f, leI_t, leI_f, ltI_t, ltI_f, eqI_t, eqI_f, leN_t, leN_f, eqN_t, eqN_f, eqS_t, eqS_f, eqB_t, eqB_f, catOk_t, leC_t] at g; exact g)] at hK
      rw [need_iff]; exact ⟨by simp only [br_iff, need_iff, andB_t, andB_f, orB_t, orB_f, notB_t, notB_f, leI_t, leI_f, ltI_t, ltI_f, eqI_t, eqI_f, leN_t, leN_f, eqN_t, eqN_f, eqS_t, eqS_f, eqB_t, eqB_f, catOk_t, leC_t, List.length_singleton]; omega, hK⟩
  · exact h.elim
theorem sub_dt {x : Pipe} {k : Int} (hk : k = 0 ∨ k = 1) : sub x.v (1 + k.toNat * 4 + 0) 1 = some [.str (endOf x k).data] := by rcases hk with rfl | rfl <;> rfl
theorem statF_at {l : List Pipe} {id : Int} {i : Nat} {x : Pipe} (hi : atF l id = (i : Int)) (gx : l[i]? = some x) (h1 : 1 < id) :
    statF l id = (⟨3, 0, 0, 0, id, 438, 0, 0, (endOf x (modI id 2)).data.length, nameF id, [115, 121, 115], [115, 121, 115], []⟩, 0) := by
  unfold statF
  rw [if_neg (by omega), if_neg (by omega), hi]
  simp only [Int.toNat_natCast, gx]
theorem stt_con {n : Nat} (hn : 5 ≤ n) : ConOk (evalF Tryd.prog cfgN n) 20 statCon := by
  intro vs bs K h
  unfold statCon at h
  split at h
  · rename_i nx xs id
    obtain ⟨l, rfl, ho, hid, hK⟩ := h
    refine run_of (lp := lpOf []) (by omega) (ct := ctOf [(37, findCon), (42, nameCon2)]) (fun k hk => ctOf_ok (ctOf_cons (find_con (by omega)) (ctOf_cons (nm_con (by omega)) (ctOf_nil _)))) ?_
    rw [stt_vc]
    have hsz := ho.1
    have e : ∀ {r}, statF l id = r → K (.tup [.agg r.1.v, .int .i64 r.2]) [] := fun h => by subst h; exact hK
    rw [br_iff]; refine ⟨fun g => ?_, fun g1 => ⟨l, rfl, by omega, hid, ?_⟩⟩
    · have g : id = 1 := by simp only [br_iff, need_iff, andB_t, andB_f, orB_t, orB_f, notB_t, notB_f, leI_t, leI_f, ltI_t, ltI_f, eqI_t, eqI_f, leN_t, leN_f, eqN_t, eqN_f, eqS_t, eqS_f, eqB_t, eqB_f, catOk_t, leC_t] at g; exact g
      subst g
      exact hK
    simp only [br_iff, need_iff, andB_t, andB_f, orB_t, orB_f, notB_t, notB_f, leI_t, leI_f, ltI_t, ltI_f, eqI_t, eqI_f, leN_t, leN_f, eqN_t, eqN_f, eqS_t, eqS_f, eqB_t, eqB_f, catOk_t, leC_t] at g1
    rw [br_iff]; refine ⟨fun g2 _ _ => e (r := (zeroD, 8)) (by simp only [br_iff, need_iff, andB_t, andB_f, orB_t, orB_f, notB_t, notB_f, leI_t, leI_f, ltI_t, ltI_f, eqI_t, eqI_f, leN_t, leN_f, eqN_t, eqN_f, eqS_t, eqS_f, eqB_t, eqB_f, catOk_t, leC_t] at g2; unfold statF; rw [if_neg g1, if_pos g2]), fun g2 => ?_⟩
    simp only [br_iff, need_iff, andB_t, andB_f, orB_t, orB_f, notB_t, notB_f, leI_t, leI_f, ltI_t, ltI_f, eqI_t, eqI_f, leN_t, leN_f, eqN_t, eqN_f, eqS_t, eqS_f, eqB_t, eqB_f, catOk_t, leC_t] at g2
    obtain ⟨i, x, hi, gx, hlt, h1, hx⟩ := at_found (l := l) (id := id) (by omega)
    have e2 := @e _ (statF_at hi gx h1)
    rw [hi, pipeV_lenL]
    have hk := mod2 (id := id)
    rw [need_iff]; refine ⟨by simp only [br_iff, need_iff, andB_t, andB_f, orB_t, orB_f, notB_t, notB_f, leI_t, leI_f, ltI_t, ltI_f, eqI_t, eqI_f, leN_t, leN_f, eqN_t, eqN_f, eqS_t, eqS_f, eqB_t, eqB_f, catOk_t, leC_t]; omega, ?_⟩
    rw [need_iff]; refine ⟨pipeV_ok hlt, ?_⟩
    rw [need_iff]; refine ⟨by simp only [br_iff, need_iff, andB_t, andB_f, orB_t, orB_f, notB_t, notB_f, leI_t, leI_f, ltI_t, ltI_f, eqI_t, eqI_f, leN_t, leN_f, eqN_t, eqN_f, eqS_t, eqS_f, eqB_t, eqB_f, catOk_t, leC_t]; omega, ?_⟩
    rw [pipeV_row gx, sub_dt hk]
    exact ⟨_, rfl, h1, hid, e2⟩
  · exact h.elim
theorem rstt_con {n : Nat} (hn : 5 ≤ n) : ConOk (evalF Tryd.prog cfgN n) 22 statCon := by
  intro vs bs K h
  unfold statCon at h
  split at h
  · rename_i nx xs id
    obtain ⟨l, rfl, ho, hid, hK⟩ := h
    refine run_of (lp := lpOf []) (by omega) (ct := ctOf [(43, atCon), (44, nameCon2)]) (fun k hk => ctOf_ok (ctOf_cons (at_con (by omega)) (ctOf_cons (rnm_con (by omega)) (ctOf_nil _)))) ?_
    rw [rstt_vc]
    have hsz := ho.1
    have e : ∀ {r}, statF l id = r → K (.tup [.agg r.1.v, .int .i64 r.2]) [] := fun h => by subst h; exact hK
    rw [br_iff]; refine ⟨fun g => ?_, fun g1 => ⟨l, rfl, by omega, hid, ?_⟩⟩
    · have g : id = 1 := by simp only [br_iff, need_iff, andB_t, andB_f, orB_t, orB_f, notB_t, notB_f, leI_t, leI_f, ltI_t, ltI_f, eqI_t, eqI_f, leN_t, leN_f, eqN_t, eqN_f, eqS_t, eqS_f, eqB_t, eqB_f, catOk_t, leC_t] at g; exact g
      subst g
      exact hK
    simp only [br_iff, need_iff, andB_t, andB_f, orB_t, orB_f, notB_t, notB_f, leI_t, leI_f, ltI_t, ltI_f, eqI_t, eqI_f, leN_t, leN_f, eqN_t, eqN_f, eqS_t, eqS_f, eqB_t, eqB_f, catOk_t, leC_t] at g1
    rw [br_iff]; refine ⟨fun g2 => e (r := (zeroD, 8)) (by simp only [br_iff, need_iff, andB_t, andB_f, orB_t, orB_f, notB_t, notB_f, leI_t, leI_f, ltI_t, ltI_f, eqI_t, eqI_f, leN_t, leN_f, eqN_t, eqN_f, eqS_t, eqS_f, eqB_t, eqB_f, catOk_t, leC_t] at g2; unfold statF; rw [if_neg g1, if_pos g2]), fun g2 => ?_⟩
    simp only [br_iff, need_iff, andB_t, andB_f, orB_t, orB_f, notB_t, notB_f, leI_t, leI_f, ltI_t, ltI_f, eqI_t, eqI_f, leN_t, leN_f, eqN_t, eqN_f, eqS_t, eqS_f, eqB_t, eqB_f, catOk_t, leC_t] at g2
    obtain ⟨i, x, hi, gx, hlt, h1, hx⟩ := at_found (l := l) (id := id) (by omega)
    have e2 := @e _ (statF_at hi gx h1)
    rw [hi, pipeV_lenL, show id.tmod 2 = modI id 2 from tmod_pos (by omega)]
    have hk := mod2 (id := id)
    rw [need_iff]; refine ⟨by simp only [br_iff, need_iff, andB_t, andB_f, orB_t, orB_f, notB_t, notB_f, leI_t, leI_f, ltI_t, ltI_f, eqI_t, eqI_f, leN_t, leN_f, eqN_t, eqN_f, eqS_t, eqS_f, eqB_t, eqB_f, catOk_t, leC_t]; omega, ?_⟩
    rw [need_iff]; refine ⟨pipeV_ok hlt, ?_⟩
    rw [need_iff]; refine ⟨by simp only [br_iff, need_iff, andB_t, andB_f, orB_t, orB_f, notB_t, notB_f, leI_t, leI_f, ltI_t, ltI_f, eqI_t, eqI_f, leN_t, leN_f, eqN_t, eqN_f, eqS_t, eqS_f, eqB_t, eqB_f, catOk_t, leC_t]; omega, ?_⟩
    rw [pipeV_row gx, sub_dt hk]
    exact ⟨_, rfl, h1, hid, e2⟩
  · exact h.elim
def walkL (want : List UInt8) : List Pipe → Int × Int
  | [] => (0, 8)
  | x :: t => if nameF (2 * x.id) = want then (2 * x.id, 0) else if nameF (2 * x.id + 1) = want then (2 * x.id + 1, 0) else walkL want t
def walkF (l : List Pipe) (id : Int) (want : List UInt8) : Int × Int :=
  if id = 1 then (if want = [46, 46] then (1, 0) else walkL want l) else if atF l id < 0 then (0, 8) else (0, 9)
def idsP (l : List Pipe) : Prop := l.length ≤ 1000 ∧ ∀ x ∈ l, 1 ≤ x.id ∧ x.id ≤ 549755813888
def walkCon : Con := fun vs bs K => match vs, bs with
  | [.agg [.int .i64 n, .lst xs], .int .i64 id, .str want], [] => ∃ l, xs = pipeV l ∧ idsP l ∧ id ≤ 9223372036854775807 ∧ K (.tup [.int .i64 (walkF l id want).1, .int .i64 (walkF l id want).2]) []
  | _, _ => False
theorem drop_cons {α : Type} {l : List α} {j : Nat} {f : α} (h : l[j]? = some f) : l.drop j = f :: l.drop (j + 1) := by
  obtain ⟨h1, rfl⟩ := List.getElem?_eq_some_iff.1 h
  exact List.drop_eq_getElem_cons h1
theorem wk_con {n : Nat} (hn : 5 ≤ n) : ConOk (evalF Tryd.prog cfgN n) 19 walkCon := by
  intro vs bs K h
  unfold walkCon at h
  split at h
  · rename_i nx xs id want
    obtain ⟨l, rfl, ho, hid, hK⟩ := h
    refine run_of (lp := lpOf [(9, wlL fun _ _ x m => ∃ j : Nat, x.i = (j : Int) ∧ j + m = l.length ∧ walkL want (l.drop j) = walkL want l), (12, unrL 3)]) (by omega) (ct := ctOf [(37, findCon), (42, nameCon2)]) (fun k hk => ctOf_ok (ctOf_cons (find_con (by omega)) (ctOf_cons (nm_con (by omega)) (ctOf_nil _)))) ?_
    rw [wk_vc]
    have hsz := ho.1
    have e : ∀ {r}, walkF l id want = r → K (.tup [.int .i64 r.1, .int .i64 r.2]) [] := fun h => by subst h; exact hK
    rw [br_iff]; refine ⟨fun g => ⟨l, rfl, by omega, hid, ?_⟩, fun g => ?_⟩
    · simp only [br_iff, need_iff, andB_t, andB_f, orB_t, orB_f, notB_t, notB_f, leI_t, leI_f, ltI_t, ltI_f, eqI_t, eqI_f, leN_t, leN_f, eqN_t, eqN_f, eqS_t, eqS_f, eqB_t, eqB_f, catOk_t, leC_t] at g
      rw [br_iff]
      exact ⟨fun q _ _ => e (r := (0, 8)) (by simp only [br_iff, need_iff, andB_t, andB_f, orB_t, orB_f, notB_t, notB_f, leI_t, leI_f, ltI_t, ltI_f, eqI_t, eqI_f, leN_t, leN_f, eqN_t, eqN_f, eqS_t, eqS_f, eqB_t, eqB_f, catOk_t, leC_t] at q; unfold walkF; rw [if_neg g, if_pos q]), fun q => e (r := (0, 9)) (by simp only [br_iff, need_iff, andB_t, andB_f, orB_t, orB_f, notB_t, notB_f, leI_t, leI_f, ltI_t, ltI_f, eqI_t, eqI_f, leN_t, leN_f, eqN_t, eqN_f, eqS_t, eqS_f, eqB_t, eqB_f, catOk_t, leC_t] at q; unfold walkF; rw [if_neg g, if_neg (by omega)])⟩
    have g : id = 1 := by simp only [br_iff, need_iff, andB_t, andB_f, orB_t, orB_f, notB_t, notB_f, leI_t, leI_f, ltI_t, ltI_f, eqI_t, eqI_f, leN_t, leN_f, eqN_t, eqN_f, eqS_t, eqS_f, eqB_t, eqB_f, catOk_t, leC_t] at g; exact g
    rw [br_iff]; refine ⟨fun q => e (r := (1, 0)) (by simp only [br_iff, need_iff, andB_t, andB_f, orB_t, orB_f, notB_t, notB_f, leI_t, leI_f, ltI_t, ltI_f, eqI_t, eqI_f, leN_t, leN_f, eqN_t, eqN_f, eqS_t, eqS_f, eqB_t, eqB_f, catOk_t, leC_t] at q; unfold walkF; rw [if_pos g, if_pos q]), fun q => ?_⟩
    simp only [br_iff, need_iff, andB_t, andB_f, orB_t, orB_f, notB_t, notB_f, leI_t, leI_f, ltI_t, ltI_f, eqI_t, eqI_f, leN_t, leN_f, eqN_t, eqN_f, eqS_t, eqS_f, eqB_t, eqB_f, catOk_t, leC_t] at q
    have e2 : ∀ {r}, walkL want l = r → K (.tup [.int .i64 r.1, .int .i64 r.2]) [] := fun h => e (by unfold walkF; rw [if_pos g, if_neg q]; exact h)
    rw [pipeV_lenL]
    refine ⟨⟨l.length, by omega, 0, rfl, by omega, rfl⟩, ?_⟩
    rintro ⟨i⟩ m ⟨j, hi, hj, hw⟩
    dsimp only at hi ⊢
    subst hi
    rw [br_iff]
    refine ⟨fun hlt => ?_, fun hge => ?_⟩
    · have hlt : j < l.length := by simp only [br_iff, need_iff, andB_t, andB_f, orB_t, orB_f, notB_t, notB_f, leI_t, leI_f, ltI_t, ltI_f, eqI_t, eqI_f, leN_t, leN_f, eqN_t, eqN_f, eqS_t, eqS_f, eqB_t, eqB_f, catOk_t, leC_t] at hlt; omega
      have gf : l[j]? = some l[j] := List.getElem?_eq_getElem hlt
      generalize l[j] = f at gf
      have rf := pipeV_row gf
      have kf : okRow (pipeV l) (Int.toNat (j : Int)) 9 = true := by simpa using pipeV_ok (l := l) (i := j) hlt
      have nf : andB (leI 0 (j : Int)) (ltI (j : Int) (l.length : Int)) = true := by simp only [br_iff, need_iff, andB_t, andB_f, orB_t, orB_f, notB_t, notB_f, leI_t, leI_f, ltI_t, ltI_f, eqI_t, eqI_f, leN_t, leN_f, eqN_t, eqN_f, eqS_t, eqS_f, eqB_t, eqB_f, catOk_t, leC_t]; omega
      have hf := ho.2 f (List.mem_of_getElem? gf)
      rw [drop_cons gf, walkL] at hw
      rw [need_iff, need_iff]
      refine ⟨nf, kf, ?_⟩
      try rw [rf]
      repeat apply Exists.intro
      refine ⟨rfl, ?_⟩
      rw [mulI_i64 (by omega) (by omega), addI_i64 (by omega) (by omega), addI_i64 (by omega) (by omega), Int.add_zero]
      refine ⟨by omega, by omega, ?_⟩
      rw [br_iff]; refine ⟨fun q1 => e2 (r := (2 * f.id, 0)) (by simp only [br_iff, need_iff, andB_t, andB_f, orB_t, orB_f, notB_t, notB_f, leI_t, leI_f, ltI_t, ltI_f, eqI_t, eqI_f, leN_t, leN_f, eqN_t, eqN_f, eqS_t, eqS_f, eqB_t, eqB_f, catOk_t, leC_t] at q1; rw [← hw, if_pos q1]), fun q1 => ⟨by omega, by omega, ?_⟩⟩
      simp only [br_iff, need_iff, andB_t, andB_f, orB_t, orB_f, notB_t, notB_f, leI_t, leI_f, ltI_t, ltI_f, eqI_t, eqI_f, leN_t, leN_f, eqN_t, eqN_f, eqS_t, eqS_f, eqB_t, eqB_f, catOk_t, leC_t] at q1
      rw [br_iff]; refine ⟨fun q2 => e2 (r := (2 * f.id + 1, 0)) (by simp only [br_iff, need_iff, andB_t, andB_f, orB_t, orB_f, notB_t, notB_f, leI_t, leI_f, ltI_t, ltI_f, eqI_t, eqI_f, leN_t, leN_f, eqN_t, eqN_f, eqS_t, eqS_f, eqB_t, eqB_f, catOk_t, leC_t] at q2; rw [← hw, if_neg q1, if_pos q2]), fun q2 => ?_⟩
      simp only [br_iff, need_iff, andB_t, andB_f, orB_t, orB_f, notB_t, notB_f, leI_t, leI_f, ltI_t, ltI_f, eqI_t, eqI_f, leN_t, leN_f, eqN_t, eqN_f, eqS_t, eqS_f, eqB_t, eqB_f, catOk_t, leC_t] at q2
      exact ⟨by trivial, m - 1, by omega, j + 1, by rw [addI_i64 (by omega) (by omega)]; rfl, by omega, by rw [← hw, if_neg q1, if_neg q2]⟩
    · have : j = l.length := by simp only [br_iff, need_iff, andB_t, andB_f, orB_t, orB_f, notB_t, notB_f, leI_t, leI_f, ltI_t, ltI_f, eqI_t, eqI_f, leN_t, leN_f, eqN_t, eqN_f, eqS_t, eqS_f, eqB_t, eqB_f, catOk_t, leC_t] at hge; omega
      subst this
      rw [List.drop_length] at hw
      exact e2 (r := (0, 8)) hw.symm
  · exact h.elim
theorem rwk_con {n : Nat} (hn : 5 ≤ n) : ConOk (evalF Tryd.prog cfgN n) 21 walkCon := by
  intro vs bs K h
  unfold walkCon at h
  split at h
  · rename_i nx xs id want
    obtain ⟨l, rfl, ho, hid, hK⟩ := h
    refine run_of (lp := lpOf [(8, rwlL fun _ _ x m => ∃ j : Nat, x.i = (j : Int) ∧ j + m = l.length ∧ walkL want (l.drop j) = walkL want l), (11, unrL 3)]) (by omega) (ct := ctOf [(43, atCon), (44, nameCon2)]) (fun k hk => ctOf_ok (ctOf_cons (at_con (by omega)) (ctOf_cons (rnm_con (by omega)) (ctOf_nil _)))) ?_
    rw [rwk_vc]
    have hsz := ho.1
    have e : ∀ {r}, walkF l id want = r → K (.tup [.int .i64 r.1, .int .i64 r.2]) [] := fun h => by subst h; exact hK
    rw [br_iff]; refine ⟨fun g => ⟨l, rfl, by omega, hid, ?_⟩, fun g => ?_⟩
    · simp only [br_iff, need_iff, andB_t, andB_f, orB_t, orB_f, notB_t, notB_f, leI_t, leI_f, ltI_t, ltI_f, eqI_t, eqI_f, leN_t, leN_f, eqN_t, eqN_f, eqS_t, eqS_f, eqB_t, eqB_f, catOk_t, leC_t] at g
      rw [br_iff]
      refine ⟨fun q => e (r := (0, 8)) (by simp only [br_iff, need_iff, andB_t, andB_f, orB_t, orB_f, notB_t, notB_f, leI_t, leI_f, ltI_t, ltI_f, eqI_t, eqI_f, leN_t, leN_f, eqN_t, eqN_f, eqS_t, eqS_f, eqB_t, eqB_f, catOk_t, leC_t] at q; unfold walkF; rw [if_neg g, if_pos q]), fun q => ?_⟩
      unfold rwk_vc_1
      rw [br_iff]
      exact ⟨fun _ => e (r := (0, 9)) (by simp only [br_iff, need_iff, andB_t, andB_f, orB_t, orB_f, notB_t, notB_f, leI_t, leI_f, ltI_t, ltI_f, eqI_t, eqI_f, leN_t, leN_f, eqN_t, eqN_f, eqS_t, eqS_f, eqB_t, eqB_f, catOk_t, leC_t] at q; unfold walkF; rw [if_neg g, if_neg (by omega)]), fun q2 => by simp only [br_iff, need_iff, andB_t, andB_f, orB_t, orB_f, notB_t, notB_f, leI_t, leI_f, ltI_t, ltI_f, eqI_t, eqI_f, leN_t, leN_f, eqN_t, eqN_f, eqS_t, eqS_f, eqB_t, eqB_f, catOk_t, leC_t] at q2; exact absurd q2 g⟩
    have g' : notB (eqI id 1) = false := g
    have g : id = 1 := by simp only [br_iff, need_iff, andB_t, andB_f, orB_t, orB_f, notB_t, notB_f, leI_t, leI_f, ltI_t, ltI_f, eqI_t, eqI_f, leN_t, leN_f, eqN_t, eqN_f, eqS_t, eqS_f, eqB_t, eqB_f, catOk_t, leC_t] at g; exact g
    unfold rwk_vc_1
    rw [g', br_ff]
    rw [br_iff]; refine ⟨fun q => e (r := (1, 0)) (by simp only [br_iff, need_iff, andB_t, andB_f, orB_t, orB_f, notB_t, notB_f, leI_t, leI_f, ltI_t, ltI_f, eqI_t, eqI_f, leN_t, leN_f, eqN_t, eqN_f, eqS_t, eqS_f, eqB_t, eqB_f, catOk_t, leC_t] at q; unfold walkF; rw [if_pos g, if_pos q]), fun q => ?_⟩
    simp only [br_iff, need_iff, andB_t, andB_f, orB_t, orB_f, notB_t, notB_f, leI_t, leI_f, ltI_t, ltI_f, eqI_t, eqI_f, leN_t, leN_f, eqN_t, eqN_f, eqS_t, eqS_f, eqB_t, eqB_f, catOk_t, leC_t] at q
    have e2 : ∀ {r}, walkL want l = r → K (.tup [.int .i64 r.1, .int .i64 r.2]) [] := fun h => e (by unfold walkF; rw [if_pos g, if_neg q]; exact h)
    rw [pipeV_lenL]
    refine ⟨⟨l.length, by omega, 0, rfl, by omega, rfl⟩, ?_⟩
    rintro ⟨i⟩ m ⟨j, hi, hj, hw⟩
    dsimp only at hi ⊢
    subst hi
    rw [br_iff]
    refine ⟨fun hlt => ?_, fun hge => ?_⟩
    · have hlt : j < l.length := by simp only [br_iff, need_iff, andB_t, andB_f, orB_t, orB_f, notB_t, notB_f, leI_t, leI_f, ltI_t, ltI_f, eqI_t, eqI_f, leN_t, leN_f, eqN_t, eqN_f, eqS_t, eqS_f, eqB_t, eqB_f, catOk_t, leC_t] at hlt; omega
      have gf : l[j]? = some l[j] := List.getElem?_eq_getElem hlt
      generalize l[j] = f at gf
      have rf := pipeV_row gf
      have kf : okRow (pipeV l) (Int.toNat (j : Int)) 9 = true := by simpa using pipeV_ok (l := l) (i := j) hlt
      have nf : andB (leI 0 (j : Int)) (ltI (j : Int) (l.length : Int)) = true := by simp only [br_iff, need_iff, andB_t, andB_f, orB_t, orB_f, notB_t, notB_f, leI_t, leI_f, ltI_t, ltI_f, eqI_t, eqI_f, leN_t, leN_f, eqN_t, eqN_f, eqS_t, eqS_f, eqB_t, eqB_f, catOk_t, leC_t]; omega
      have hf := ho.2 f (List.mem_of_getElem? gf)
      rw [drop_cons gf, walkL] at hw
      have em : mulI .i64 2 f.id = 2 * f.id := mulI_i64 (by omega) (by omega)
      have ea0 : addI .i64 (2 * f.id) 0 = 2 * f.id := by rw [addI_i64 (by omega) (by omega), Int.add_zero]
      have ea1 : addI .i64 (2 * f.id) 1 = 2 * f.id + 1 := addI_i64 (by omega) (by omega)
      rw [need_iff, need_iff]
      refine ⟨nf, kf, ?_⟩
      try rw [rf]
      repeat apply Exists.intro
      refine ⟨rfl, ?_⟩
      rw [em, ea0]
      refine ⟨by omega, by omega, ?_⟩
      rw [br_iff]; refine ⟨fun q1 => ?_, fun q1 => ?_⟩
      · skip
        rw [need_iff, need_iff]
        refine ⟨nf, kf, ?_⟩
        try rw [rf]
        repeat apply Exists.intro
        refine ⟨rfl, ?_⟩
        rw [em, ea0]
        exact e2 (r := (2 * f.id, 0)) (by simp only [br_iff, need_iff, andB_t, andB_f, orB_t, orB_f, notB_t, notB_f, leI_t, leI_f, ltI_t, ltI_f, eqI_t, eqI_f, leN_t, leN_f, eqN_t, eqN_f, eqS_t, eqS_f, eqB_t, eqB_f, catOk_t, leC_t] at q1; rw [← hw, if_pos q1])
      simp only [br_iff, need_iff, andB_t, andB_f, orB_t, orB_f, notB_t, notB_f, leI_t, leI_f, ltI_t, ltI_f, eqI_t, eqI_f, leN_t, leN_f, eqN_t, eqN_f, eqS_t, eqS_f, eqB_t, eqB_f, catOk_t, leC_t] at q1
      rw [need_iff, need_iff]
      refine ⟨nf, kf, ?_⟩
      try rw [rf]
      repeat apply Exists.intro
      refine ⟨rfl, ?_⟩
      rw [em, ea1]
      refine ⟨by omega, by omega, ?_⟩
      rw [br_iff]; refine ⟨fun q2 => ?_, fun q2 => ?_⟩
      · skip
        rw [need_iff, need_iff]
        refine ⟨nf, kf, ?_⟩
        try rw [rf]
        repeat apply Exists.intro
        refine ⟨rfl, ?_⟩
        rw [em, ea1]
        exact e2 (r := (2 * f.id + 1, 0)) (by simp only [br_iff, need_iff, andB_t, andB_f, orB_t, orB_f, notB_t, notB_f, leI_t, leI_f, ltI_t, ltI_f, eqI_t, eqI_f, leN_t, leN_f, eqN_t, eqN_f, eqS_t, eqS_f, eqB_t, eqB_f, catOk_t, leC_t] at q2; rw [← hw, if_neg q1, if_pos q2])
      simp only [br_iff, need_iff, andB_t, andB_f, orB_t, orB_f, notB_t, notB_f, leI_t, leI_f, ltI_t, ltI_f, eqI_t, eqI_f, leN_t, leN_f, eqN_t, eqN_f, eqS_t, eqS_f, eqB_t, eqB_f, catOk_t, leC_t] at q2
      exact ⟨by trivial, m - 1, by omega, j + 1, by rw [addI_i64 (by omega) (by omega)]; rfl, by omega, by rw [← hw, if_neg q1, if_neg q2]⟩
    · have : j = l.length := by simp only [br_iff, need_iff, andB_t, andB_f, orB_t, orB_f, notB_t, notB_f, leI_t, leI_f, ltI_t, ltI_f, eqI_t, eqI_f, leN_t, leN_f, eqN_t, eqN_f, eqS_t, eqS_f, eqB_t, eqB_f, catOk_t, leC_t] at hge; omega
      subst this
      rw [List.drop_length] at hw
      exact e2 (r := (0, 8)) hw.symm
  · exact h.elim
end Go.Proofs.YtjplfafojmkpbaaDoor
namespace Go.Proofs.YtjplfafojmkpbaaDoor
open Go.RowKit
set_option maxRecDepth 100000
set_option linter.unusedVariables false
set_option linter.unusedSimpArgs false
theorem idxN_has {s : Int} : ∀ {l : List Pipe} {k : Nat} {a : Pipe}, a ∈ l → a.id = s → ∃ j, idxN s l k = some j
  | b :: l, k, a, h, hs => by
    rw [idxN]
    split
    · exact ⟨k, rfl⟩
    · rename_i hb
      rcases List.mem_cons.1 h with rfl | h
      · exact absurd hs hb
      · exact idxN_has h hs
theorem at_mem {l : List Pipe} {x : Pipe} (h : x ∈ l) (h1 : 1 ≤ x.id) : 0 ≤ atF l (2 * x.id) ∧ 0 ≤ atF l (2 * x.id + 1) := by
  constructor
  · obtain ⟨j, hj⟩ := idxN_has (k := 0) h (s := divI (2 * x.id) 2) (by unfold divI; omega)
    unfold atF; rw [if_neg (by omega)]; unfold idxP; rw [hj]; simp only; omega
  · obtain ⟨j, hj⟩ := idxN_has (k := 0) h (s := divI (2 * x.id + 1) 2) (by unfold divI; omega)
    unfold atF; rw [if_neg (by omega)]; unfold idxP; rw [hj]; simp only; omega
theorem stat_ok {l : List Pipe} {id : Int} (h : 0 ≤ atF l id) : (statF l id).2 = 0 := by
  unfold statF
  split
  · rfl
  · rw [if_neg (by omega)]
    split <;> rfl
def listL (l0 : List Pipe) (l : List Pipe) : List Dir := l.flatMap fun x => [(statF l0 (2 * x.id)).1, (statF l0 (2 * x.id + 1)).1]
def listF (l : List Pipe) (id : Int) : List Dir × Int := if id = 1 then (listL l l, 0) else if atF l id < 0 then ([], 8) else ([], 9)
theorem listL_snoc {l0 l : List Pipe} {j : Nat} {f : Pipe} (h : l[j]? = some f) : listL l0 (l.take (j + 1)) = listL l0 (l.take j) ++ [(statF l0 (2 * f.id)).1, (statF l0 (2 * f.id + 1)).1] := by
  obtain ⟨h1, rfl⟩ := List.getElem?_eq_some_iff.1 h
  unfold listL
  rw [List.take_succ_eq_append_getElem h1, List.flatMap_append]
  rfl
theorem listL_len (l0 : List Pipe) : ∀ l : List Pipe, (listL l0 l).length = 2 * l.length
  | [] => rfl
  | a :: l => by
    have := listL_len l0 l
    simp only [listL, List.flatMap_cons, List.length_append, List.length_cons] at this ⊢
    simp at this ⊢
    omega
def listCon : Con := fun vs bs K => match vs, bs with
  | [.agg [.int .i64 n, .lst xs], .int .i64 id], [] => ∃ l, xs = pipeV l ∧ okL l ∧ idsP l ∧ id ≤ 9223372036854775807 ∧ K (.tup [.lst (dirV (listF l id).1), .int .i64 (listF l id).2]) []
  | _, _ => False
def lsI (l : List Pipe) (x : lsX) (m : Nat) : Prop := ∃ j : Nat, x = ⟨dirV (listL l (l.take j)), (listL l (l.take j)).length, (listL l (l.take j)).length, (j : Int)⟩ ∧ j + m = l.length
def rlsI (l : List Pipe) (x : rlsX) (m : Nat) : Prop := ∃ j : Nat, x = ⟨dirV (listL l (l.take j)), (listL l (l.take j)).length, (listL l (l.take j)).length, (j : Int)⟩ ∧ j + m = l.length
theorem dir_two (A : List Dir) (a b : Dir) : dirV A ++ [a.v] ++ [b.v] = dirV (A ++ [a, b]) := by simp [dirV]
theorem ls_con {n : Nat} (hn : 6 ≤ n) : ConOk (evalF Tryd.prog cfgN n) 23 listCon := by
  intro vs bs K h
  unfold listCon at h
  split at h
  · rename_i nx xs id
    obtain ⟨l, rfl, ho, hb, hid, hK⟩ := h
    refine run_of (lp := lpOf [(8, lsL fun _ _ x m => lsI l x m), (11, unrL 3)]) (by omega) (ct := ctOf [(37, findCon), (20, statCon)]) (fun k hk => ctOf_ok (ctOf_cons (find_con (by omega)) (ctOf_cons (stt_con (by omega)) (ctOf_nil _)))) ?_
    rw [ls_vc]
    have hsz := ho.1
    have e : ∀ {r}, listF l id = r → K (.tup [.lst (dirV r.1), .int .i64 r.2]) [] := fun h => by subst h; exact hK
    rw [br_iff]; refine ⟨fun g => ⟨l, rfl, by omega, hid, ?_⟩, fun g => ?_⟩
    · simp only [br_iff, need_iff, andB_t, andB_f, orB_t, orB_f, notB_t, notB_f, leI_t, leI_f, ltI_t, ltI_f, eqI_t, eqI_f, leN_t, leN_f, eqN_t, eqN_f, eqS_t, eqS_f, eqB_t, eqB_f, catOk_t, leC_t] at g
      rw [br_iff]
      exact ⟨fun q _ _ => e (r := ([], 8)) (by simp only [br_iff, need_iff, andB_t, andB_f, orB_t, orB_f, notB_t, notB_f, leI_t, leI_f, ltI_t, ltI_f, eqI_t, eqI_f, leN_t, leN_f, eqN_t, eqN_f, eqS_t, eqS_f, eqB_t, eqB_f, catOk_t, leC_t] at q; unfold listF; rw [if_neg g, if_pos q]), fun q => e (r := ([], 9)) (by simp only [br_iff, need_iff, andB_t, andB_f, orB_t, orB_f, notB_t, notB_f, leI_t, leI_f, ltI_t, ltI_f, eqI_t, eqI_f, leN_t, leN_f, eqN_t, eqN_f, eqS_t, eqS_f, eqB_t, eqB_f, catOk_t, leC_t] at q; unfold listF; rw [if_neg g, if_neg (by omega)])⟩
    have g : id = 1 := by simp only [br_iff, need_iff, andB_t, andB_f, orB_t, orB_f, notB_t, notB_f, leI_t, leI_f, ltI_t, ltI_f, eqI_t, eqI_f, leN_t, leN_f, eqN_t, eqN_f, eqS_t, eqS_f, eqB_t, eqB_f, catOk_t, leC_t] at g; exact g
    have e2 := e (r := (listL l l, 0)) (by unfold listF; rw [if_pos g])
    simp only [pipeV_lenL]
    refine ⟨⟨l.length, by omega, 0, rfl, by omega⟩, ?_⟩
    rintro _ m ⟨j, rfl, hj⟩
    dsimp only
    have hll := listL_len l (l.take j)
    rw [List.length_take] at hll
    rw [br_iff]
    refine ⟨fun hlt => ?_, fun hge => ?_⟩
    · have hlt : j < l.length := by simp only [br_iff, need_iff, andB_t, andB_f, orB_t, orB_f, notB_t, notB_f, leI_t, leI_f, ltI_t, ltI_f, eqI_t, eqI_f, leN_t, leN_f, eqN_t, eqN_f, eqS_t, eqS_f, eqB_t, eqB_f, catOk_t, leC_t] at hlt; omega
      have gf : l[j]? = some l[j] := List.getElem?_eq_getElem hlt
      generalize l[j] = f at gf
      have rf := pipeV_row gf
      have kf : okRow (pipeV l) (Int.toNat (j : Int)) 9 = true := by simpa using pipeV_ok (l := l) (i := j) hlt
      have nf : andB (leI 0 (j : Int)) (ltI (j : Int) (l.length : Int)) = true := by simp only [br_iff, need_iff, andB_t, andB_f, orB_t, orB_f, notB_t, notB_f, leI_t, leI_f, ltI_t, ltI_f, eqI_t, eqI_f, leN_t, leN_f, eqN_t, eqN_f, eqS_t, eqS_f, eqB_t, eqB_f, catOk_t, leC_t]; omega
      have hm := List.mem_of_getElem? gf
      have hf := hb.2 f hm
      obtain ⟨m0, m1⟩ := at_mem hm hf.1
      have em : mulI .i64 2 f.id = 2 * f.id := mulI_i64 (by omega) (by omega)
      have ea0 : addI .i64 (2 * f.id) 0 = 2 * f.id := by rw [addI_i64 (by omega) (by omega), Int.add_zero]
      have ea1 : addI .i64 (2 * f.id) 1 = 2 * f.id + 1 := addI_i64 (by omega) (by omega)
      have e01 : addI .i64 0 1 = 1 := rfl
      rw [need_iff, need_iff]
      refine ⟨nf, kf, ?_⟩
      try rw [rf]
      repeat apply Exists.intro
      refine ⟨rfl, ?_⟩
      rw [em, ea0]
      refine ⟨l, rfl, ho, by omega, ?_⟩
      rw [stat_ok m0]
      simp only [show notB (eqI 0 0) = false from rfl, leN_succ, eqN_self, leI_self, br_ff, br_tt, need_tt, andB_tt, List.drop_zero, List.nil_append, List.append_nil, Nat.zero_add, Nat.add_zero, Nat.sub_zero, List.take_length, Int.ofNat_eq_natCast, Int.toNat_natCast, Int.toNat_zero, dirV_len, dirV_lenL, dirV_head, dirV_all, dirV_all1]
      rw [need_iff]; refine ⟨by simp only [br_iff, need_iff, andB_t, andB_f, orB_t, orB_f, notB_t, notB_f, leI_t, leI_f, ltI_t, ltI_f, eqI_t, eqI_f, leN_t, leN_f, eqN_t, eqN_f, eqS_t, eqS_f, eqB_t, eqB_f, catOk_t, leC_t]; omega, l, rfl, ho, by rw [ea1]; omega, ?_⟩
      rw [e01, ea1, stat_ok m1]
      simp only [show notB (eqI 0 0) = false from rfl, leN_succ, eqN_self, leI_self, br_ff, br_tt, need_tt, andB_tt, List.drop_zero, List.nil_append, List.append_nil, Nat.zero_add, Nat.add_zero, Nat.sub_zero, List.take_length, Int.ofNat_eq_natCast, Int.toNat_natCast, Int.toNat_zero, dirV_len, dirV_lenL, dirV_head, dirV_all, dirV_all1]
      have hd : headOkP 13 (dirV (listL l (l.take j)) ++ [(statF l (2 * f.id)).1.v]) = true := by rw [dirV_add]; exact dirV_head _
      rw [need_iff]; refine ⟨hd, ?_⟩
      rw [need_iff]; refine ⟨by simp only [br_iff, need_iff, andB_t, andB_f, orB_t, orB_f, notB_t, notB_f, leI_t, leI_f, ltI_t, ltI_f, eqI_t, eqI_f, leN_t, leN_f, eqN_t, eqN_f, eqS_t, eqS_f, eqB_t, eqB_f, catOk_t, leC_t, List.length_append, dirV_len, List.length_singleton], ?_⟩
      rw [need_iff]; refine ⟨by simp only [br_iff, need_iff, andB_t, andB_f, orB_t, orB_f, notB_t, notB_f, leI_t, leI_f, ltI_t, ltI_f, eqI_t, eqI_f, leN_t, leN_f, eqN_t, eqN_f, eqS_t, eqS_f, eqB_t, eqB_f, catOk_t, leC_t]; omega, by trivial, m - 1, by omega, j + 1, ?_, by omega⟩
      rw [listL_snoc gf, addI_i64 (by omega) (by omega), ← dir_two]
      simp [Dir.v]
    · have : j = l.length := by simp only [br_iff, need_iff, andB_t, andB_f, orB_t, orB_f, notB_t, notB_f, leI_t, leI_f, ltI_t, ltI_f, eqI_t, eqI_f, leN_t, leN_f, eqN_t, eqN_f, eqS_t, eqS_f, eqB_t, eqB_f, catOk_t, leC_t] at hge; omega
      subst this
      rw [List.take_length, List.drop_zero, dirV_all]
      exact e2
  · exact h.elim
theorem rls_con {n : Nat} (hn : 6 ≤ n) : ConOk (evalF Tryd.prog cfgN n) 24 listCon := by
  intro vs bs K h
  unfold listCon at h
  split at h
  · rename_i nx xs id
    obtain ⟨l, rfl, ho, hb, hid, hK⟩ := h
    refine run_of (lp := lpOf [(7, rlsL fun _ _ x m => rlsI l x m), (10, unrL 3)]) (by omega) (ct := ctOf [(43, atCon), (22, statCon)]) (fun k hk => ctOf_ok (ctOf_cons (at_con (by omega)) (ctOf_cons (rstt_con (by omega)) (ctOf_nil _)))) ?_
    rw [rls_vc]
    have hsz := ho.1
    have e : ∀ {r}, listF l id = r → K (.tup [.lst (dirV r.1), .int .i64 r.2]) [] := fun h => by subst h; exact hK
    rw [br_iff]; refine ⟨fun g => ⟨l, rfl, by omega, hid, ?_⟩, fun g => ?_⟩
    · simp only [br_iff, need_iff, andB_t, andB_f, orB_t, orB_f, notB_t, notB_f, leI_t, leI_f, ltI_t, ltI_f, eqI_t, eqI_f, leN_t, leN_f, eqN_t, eqN_f, eqS_t, eqS_f, eqB_t, eqB_f, catOk_t, leC_t] at g
      rw [br_iff]
      refine ⟨fun q => e (r := ([], 8)) (by simp only [br_iff, need_iff, andB_t, andB_f, orB_t, orB_f, notB_t, notB_f, leI_t, leI_f, ltI_t, ltI_f, eqI_t, eqI_f, leN_t, leN_f, eqN_t, eqN_f, eqS_t, eqS_f, eqB_t, eqB_f, catOk_t, leC_t] at q; unfold listF; rw [if_neg g, if_pos q]), fun q => ?_⟩
      unfold rls_vc_1
      rw [br_iff]
      exact ⟨fun _ => e (r := ([], 9)) (by simp only [br_iff, need_iff, andB_t, andB_f, orB_t, orB_f, notB_t, notB_f, leI_t, leI_f, ltI_t, ltI_f, eqI_t, eqI_f, leN_t, leN_f, eqN_t, eqN_f, eqS_t, eqS_f, eqB_t, eqB_f, catOk_t, leC_t] at q; unfold listF; rw [if_neg g, if_neg (by omega)]), fun q2 => by simp only [br_iff, need_iff, andB_t, andB_f, orB_t, orB_f, notB_t, notB_f, leI_t, leI_f, ltI_t, ltI_f, eqI_t, eqI_f, leN_t, leN_f, eqN_t, eqN_f, eqS_t, eqS_f, eqB_t, eqB_f, catOk_t, leC_t] at q2; exact absurd q2 g⟩
    have g' : notB (eqI id 1) = false := g
    have g : id = 1 := by simp only [br_iff, need_iff, andB_t, andB_f, orB_t, orB_f, notB_t, notB_f, leI_t, leI_f, ltI_t, ltI_f, eqI_t, eqI_f, leN_t, leN_f, eqN_t, eqN_f, eqS_t, eqS_f, eqB_t, eqB_f, catOk_t, leC_t] at g; exact g
    have e2 := e (r := (listL l l, 0)) (by unfold listF; rw [if_pos g])
    unfold rls_vc_1
    rw [g', br_ff]
    simp only [pipeV_lenL]
    refine ⟨⟨l.length, by omega, 0, rfl, by omega⟩, ?_⟩
    rintro _ m ⟨j, rfl, hj⟩
    dsimp only
    have hll := listL_len l (l.take j)
    rw [List.length_take] at hll
    rw [br_iff]
    refine ⟨fun hlt => ?_, fun hge => ?_⟩
    · have hlt : j < l.length := by simp only [br_iff, need_iff, andB_t, andB_f, orB_t, orB_f, notB_t, notB_f, leI_t, leI_f, ltI_t, ltI_f, eqI_t, eqI_f, leN_t, leN_f, eqN_t, eqN_f, eqS_t, eqS_f, eqB_t, eqB_f, catOk_t, leC_t] at hlt; omega
      have gf : l[j]? = some l[j] := List.getElem?_eq_getElem hlt
      generalize l[j] = f at gf
      have rf := pipeV_row gf
      have kf : okRow (pipeV l) (Int.toNat (j : Int)) 9 = true := by simpa using pipeV_ok (l := l) (i := j) hlt
      have nf : andB (leI 0 (j : Int)) (ltI (j : Int) (l.length : Int)) = true := by simp only [br_iff, need_iff, andB_t, andB_f, orB_t, orB_f, notB_t, notB_f, leI_t, leI_f, ltI_t, ltI_f, eqI_t, eqI_f, leN_t, leN_f, eqN_t, eqN_f, eqS_t, eqS_f, eqB_t, eqB_f, catOk_t, leC_t]; omega
      have hm := List.mem_of_getElem? gf
      have hf := hb.2 f hm
      have em : mulI .i64 2 f.id = 2 * f.id := mulI_i64 (by omega) (by omega)
      have ea0 : addI .i64 (2 * f.id) 0 = 2 * f.id := by rw [addI_i64 (by omega) (by omega), Int.add_zero]
      have ea1 : addI .i64 (2 * f.id) 1 = 2 * f.id + 1 := addI_i64 (by omega) (by omega)
      rw [need_iff, need_iff]
      refine ⟨nf, kf, ?_⟩
      try rw [rf]
      repeat apply Exists.intro
      refine ⟨rfl, ?_⟩
      rw [em, ea0]
      refine ⟨l, rfl, ho, by omega, ?_⟩
      simp only [leN_succ, eqN_self, leI_self, br_ff, br_tt, need_tt, andB_tt, List.drop_zero, List.nil_append, List.append_nil, Nat.zero_add, Nat.add_zero, Nat.sub_zero, List.take_length, Int.ofNat_eq_natCast, Int.toNat_natCast, Int.toNat_zero, dirV_len, dirV_lenL, dirV_head, dirV_all, dirV_all1]
      rw [need_iff]; refine ⟨by simp only [br_iff, need_iff, andB_t, andB_f, orB_t, orB_f, notB_t, notB_f, leI_t, leI_f, ltI_t, ltI_f, eqI_t, eqI_f, leN_t, leN_f, eqN_t, eqN_f, eqS_t, eqS_f, eqB_t, eqB_f, catOk_t, leC_t]; omega, ?_⟩
      rw [need_iff, need_iff]
      refine ⟨nf, by simpa using kf, ?_⟩
      try rw [rf]
      repeat apply Exists.intro
      refine ⟨rfl, l, rfl, ho, by rw [em, ea1]; omega, ?_⟩
      try rw [em]
      rw [show addI .i64 0 1 = 1 from rfl, ea1]
      have hd : headOkP 13 (dirV (listL l (l.take j)) ++ [(statF l (2 * f.id)).1.v]) = true := by rw [dirV_add]; exact dirV_head _
      rw [need_iff]; refine ⟨hd, ?_⟩
      rw [need_iff]; refine ⟨by simp only [br_iff, need_iff, andB_t, andB_f, orB_t, orB_f, notB_t, notB_f, leI_t, leI_f, ltI_t, ltI_f, eqI_t, eqI_f, leN_t, leN_f, eqN_t, eqN_f, eqS_t, eqS_f, eqB_t, eqB_f, catOk_t, leC_t, List.length_append, dirV_len, List.length_singleton], ?_⟩
      rw [need_iff]; refine ⟨by simp only [br_iff, need_iff, andB_t, andB_f, orB_t, orB_f, notB_t, notB_f, leI_t, leI_f, ltI_t, ltI_f, eqI_t, eqI_f, leN_t, leN_f, eqN_t, eqN_f, eqS_t, eqS_f, eqB_t, eqB_f, catOk_t, leC_t]; omega, by trivial, m - 1, by omega, j + 1, ?_, by omega⟩
      rw [listL_snoc gf, addI_i64 (by omega) (by omega), ← dir_two]
      simp [Dir.v]
    · have : j = l.length := by simp only [br_iff, need_iff, andB_t, andB_f, orB_t, orB_f, notB_t, notB_f, leI_t, leI_f, ltI_t, ltI_f, eqI_t, eqI_f, leN_t, leN_f, eqN_t, eqN_f, eqS_t, eqS_f, eqB_t, eqB_f, catOk_t, leC_t] at hge; omega
      subst this
      rw [List.take_length, List.drop_zero, dirV_all]
      exact e2
  · exact h.elim
noncomputable def eqDs (a b : List Dir) : Bool := @decide (a = b) (Classical.propDecidable _)
theorem eqDs_t {a b : List Dir} : eqDs a b = true ↔ a = b := by simp [eqDs]
theorem eqDs_no {a b : List Dir} (h : a ≠ b) : eqDs a b = false := by rw [← Bool.not_eq_true, eqDs_t]; exact h
def dsCon : Con := fun vs bs K => match vs, bs with
  | [.lst xs, .lst ys], [] => ∃ a b : List Dir, xs = dirV a ∧ ys = dirV b ∧ a.length ≤ 100000 ∧ K (.bool (eqDs a b)) []
  | _, _ => False
theorem ds_con {n : Nat} (hn : 1 ≤ n) : ConOk (evalF Tryd.prog cfgN n) 25 dsCon := by
  intro vs bs K h
  unfold dsCon at h
  split at h
  · obtain ⟨a, b, rfl, rfl, h1, hK⟩ := h
    refine run_of (lp := lpOf [(4, dsL fun _ _ x m => ∃ j : Nat, x = ⟨(j : Int)⟩ ∧ j + m = a.length ∧ a.take j = b.take j)]) hn (fun k _ => noCt_ok _) ?_
    rw [ds_vc]
    simp only [dirV_lenL]
    have no : a ≠ b → K (.bool false) [] := fun h => by rw [eqDs_no h] at hK; exact hK
    rw [br_iff]
    refine ⟨fun h => no (by rintro rfl; simp only [br_iff, need_iff, andB_t, andB_f, orB_t, orB_f, notB_t, notB_f, leI_t, leI_f, ltI_t, ltI_f, eqI_t, eqI_f, leN_t, leN_f, eqN_t, eqN_f, eqS_t, eqS_f, eqB_t, eqB_f, catOk_t, leC_t] at h; exact h rfl), fun h => ?_⟩
    have hl : a.length = b.length := by simp only [br_iff, need_iff, andB_t, andB_f, orB_t, orB_f, notB_t, notB_f, leI_t, leI_f, ltI_t, ltI_f, eqI_t, eqI_f, leN_t, leN_f, eqN_t, eqN_f, eqS_t, eqS_f, eqB_t, eqB_f, catOk_t, leC_t] at h; omega
    refine ⟨⟨a.length, by omega, 0, rfl, by omega, rfl⟩, ?_⟩
    rintro _ m ⟨j, rfl, hj, hp⟩
    dsimp only
    rw [br_iff]
    refine ⟨fun hlt => ?_, fun hge => ?_⟩
    · have hlt : j < a.length := by simp only [br_iff, need_iff, andB_t, andB_f, orB_t, orB_f, notB_t, notB_f, leI_t, leI_f, ltI_t, ltI_f, eqI_t, eqI_f, leN_t, leN_f, eqN_t, eqN_f, eqS_t, eqS_f, eqB_t, eqB_f, catOk_t, leC_t] at hlt; omega
      have hlt2 : j < b.length := by omega
      have gf : a[j]? = some a[j] := List.getElem?_eq_getElem hlt
      generalize a[j] = f at gf
      have rf := dirV_row gf
      have kf : okRow (dirV a) (Int.toNat (j : Int)) 13 = true := by simpa using dirV_ok (l := a) (i := j) hlt
      have nf : andB (leI 0 (j : Int)) (ltI (j : Int) (a.length : Int)) = true := by simp only [br_iff, need_iff, andB_t, andB_f, orB_t, orB_f, notB_t, notB_f, leI_t, leI_f, ltI_t, ltI_f, eqI_t, eqI_f, leN_t, leN_f, eqN_t, eqN_f, eqS_t, eqS_f, eqB_t, eqB_f, catOk_t, leC_t]; omega
      have gg : b[j]? = some b[j] := List.getElem?_eq_getElem hlt2
      generalize b[j] = g at gg
      have rg := dirV_row gg
      have kg : okRow (dirV b) (Int.toNat (j : Int)) 13 = true := by simpa using dirV_ok (l := b) (i := j) hlt2
      have ng : andB (leI 0 (j : Int)) (ltI (j : Int) (b.length : Int)) = true := by simp only [br_iff, need_iff, andB_t, andB_f, orB_t, orB_f, notB_t, notB_f, leI_t, leI_f, ltI_t, ltI_f, eqI_t, eqI_f, leN_t, leN_f, eqN_t, eqN_f, eqS_t, eqS_f, eqB_t, eqB_f, catOk_t, leC_t]; omega
      rw [need_iff, need_iff]
      refine ⟨nf, kf, ?_⟩
      try rw [rf]
      repeat apply Exists.intro
      refine ⟨rfl, ?_⟩
      rw [need_iff, need_iff]
      refine ⟨ng, kg, ?_⟩
      try rw [rg]
      repeat apply Exists.intro
      refine ⟨rfl, ?_⟩
      rw [br_iff]
      refine ⟨fun q => no ?_, fun q => ⟨by trivial, m - 1, by omega, j + 1, by rw [addI_i64 (by omega) (by omega)]; rfl, by omega, ?_⟩⟩
      · rintro rfl
        obtain rfl := Option.some.inj (gf.symm.trans gg)
        simp [strEq] at q
      · have : f = g := by
          simp [strEq] at q
          rw [Dir.eqv]
          simp [q]
        subst this
        exact take_eq_succ gf gg hp
    · have : j = a.length := by simp only [br_iff, need_iff, andB_t, andB_f, orB_t, orB_f, notB_t, notB_f, leI_t, leI_f, ltI_t, ltI_f, eqI_t, eqI_f, leN_t, leN_f, eqN_t, eqN_f, eqS_t, eqS_f, eqB_t, eqB_f, catOk_t, leC_t] at hge; omega
      subst this
      rw [List.take_length, hl, List.take_length] at hp
      rw [eqDs_t.2 hp] at hK
      exact hK
  · exact h.elim
end Go.Proofs.YtjplfafojmkpbaaDoor
namespace Go.Proofs.YtjplfafojmkpbaaDoor
open Go.RowKit
set_option maxRecDepth 100000
set_option linter.unusedVariables false
set_option linter.unusedSimpArgs false
theorem lfi_vc (n : Int) (xs : List (List V)) (id : Int) (s : List UInt8) (K : V → List Bk → Prop) : vcF Tryd.prog cfgN (ctOf [(8, smallCon), (9, okCon), (10, rightCon), (11, rightCon), (19, walkCon), (21, walkCon), (20, statCon), (22, statCon), (23, listCon), (24, listCon), (25, dsCon)]) (lpOf []) 7 [.agg [.int .i64 n, .lst xs], .int .i64 id, .str s] [] K = (
  br (notB (leI (lenL xs) 80)) (
    K (V.bool true) []) (
    ∃ l5 : List Pipe, ((xs : List (List V)) = pipeV l5) ∧ (
    (((l5.length : Nat) ≤ 100000)) ∧ (
    br (notB (rightP n l5)) (
      ∃ l6 : List Pipe, ((xs : List (List V)) = pipeV l6) ∧ (
      (((l6.length : Nat) ≤ 100000)) ∧ (
      br (notB (rightP n l6)) (
        K (V.bool true) []) (
        K (V.bool false) [])))) (
      ∃ l6 : List Pipe, ((xs : List (List V)) = pipeV l6) ∧ (
      (idsP l6) ∧ (
      (((id : Int) ≤ 9223372036854775807)) ∧ (
      ∃ l7 : List Pipe, ((xs : List (List V)) = pipeV l7) ∧ (
      (idsP l7) ∧ (
      (((id : Int) ≤ 9223372036854775807)) ∧ (
      ∃ l8 : List Pipe, ((xs : List (List V)) = pipeV l8) ∧ (
      (okL l8) ∧ (
      (((id : Int) ≤ 9223372036854775807)) ∧ (
      ∃ l9 : List Pipe, ((xs : List (List V)) = pipeV l9) ∧ (
      (okL l9) ∧ (
      (((id : Int) ≤ 9223372036854775807)) ∧ (
      ∃ l10 : List Pipe, ((xs : List (List V)) = pipeV l10) ∧ (
      (okL l10) ∧ (
      (idsP l10) ∧ (
      (((id : Int) ≤ 9223372036854775807)) ∧ (
      ∃ l11 : List Pipe, ((xs : List (List V)) = pipeV l11) ∧ (
      (okL l11) ∧ (
      (idsP l11) ∧ (
      (((id : Int) ≤ 9223372036854775807)) ∧ (
      ∃ l12 : List Pipe, ((xs : List (List V)) = pipeV l12) ∧ (
      (((l12.length : Nat) ≤ 100000)) ∧ (
      br (rightP n l12) (
        br (eqI (walkF l6 id s).1 (walkF l7 id s).1) (
          br (eqI (walkF l6 id s).2 (walkF l7 id s).2) (
            br (decide ((statF l8 id).fst.type = (statF l9 id).fst.type) && (decide ((statF l8 id).fst.dev = (statF l9 id).fst.dev) && (decide ((statF l8 id).fst.qt = (statF l9 id).fst.qt) && (decide ((statF l8 id).fst.qv = (statF l9 id).fst.qv) && (decide ((statF l8 id).fst.qp = (statF l9 id).fst.qp) && true)) && (decide ((statF l8 id).fst.mode = (statF l9 id).fst.mode) && (decide ((statF l8 id).fst.atime = (statF l9 id).fst.atime) && (decide ((statF l8 id).fst.mtime = (statF l9 id).fst.mtime) && (decide ((statF l8 id).fst.length = (statF l9 id).fst.length) && (strEq (statF l8 id).fst.10 (statF l9 id).fst.10 && (strEq (statF l8 id).fst.11 (statF l9 id).fst.11 && (strEq (statF l8 id).fst.12 (statF l9 id).fst.12 && (strEq (statF l8 id).fst.13 (statF l9 id).fst.13 && true))))))))))) (
              br (eqI (statF l8 id).2 (statF l9 id).2) (
                ∃ a13 : List Dir, ∃ b14 : List Dir, ((dirV (listF l10 id).1 : List (List V)) = dirV a13) ∧ (
                ((dirV (listF l11 id).1 : List (List V)) = dirV b14) ∧ (
                (((a13.length : Nat) ≤ 100000)) ∧ (
                br (eqDs a13 b14) (
                  br (eqI (listF l10 id).2 (listF l11 id).2) (
                    K (V.bool true) []) (
                    K (V.bool false) [])) (
                  K (V.bool false) []))))) (
                K (V.bool false) [])) (
              K (V.bool false) [])) (
            K (V.bool false) [])) (
          K (V.bool false) [])) (
        K (V.bool false) [])))))))))))))))))))))))))))) := by kernel_rfl

theorem lfn_vc (a b : Int) (K : V → List Bk → Prop) : vcF Tryd.prog cfgN (ctOf [(9, okCon), (13, makeCon), (14, openCon), (18, closeCon), (19, walkCon), (20, statCon), (17, saCon)]) (lpOf []) 6 [.int .i64 a, .int .i64 b] [] K = (
  ∃ l3 : List Pipe, (([] : List (List V)) = pipeV l3) ∧ (
  (((l3.length : Nat) ≤ 1000)) ∧ (
  (((0 : Int) ≤ 0)) ∧ (
  (((0 : Int) = 0) → (
  (l3 : List Pipe) = [])) ∧ (
  ∃ l4 : List Pipe, ((pipeV (makeF 0 l3).fst.2 : List (List V)) = pipeV l4) ∧ (
  (okL l4) ∧ (
  (((2 : Int) ≤ 9223372036854775807)) ∧ (
  (((a : Int) ≤ 9223372036854775807)) ∧ (
  ∃ l5 : List Pipe, ((pipeV (openF l4 2 a).1 : List (List V)) = pipeV l5) ∧ (
  (okL l5) ∧ (
  (((3 : Int) ≤ 9223372036854775807)) ∧ (
  (((b : Int) ≤ 9223372036854775807)) ∧ (
  br (notB (eqI (makeF 0 l3).snd.1 1)) (
    K (V.bool false) []) (
    br (notB (eqI (makeF 0 l3).snd.2 0)) (
      K (V.bool false) []) (
      br (notB (eqI (openF l4 2 a).2 0)) (
        K (V.bool true) []) (
        br (notB (eqI (openF l5 3 b).2 0)) (
          ∃ a6 : List Pipe, ∃ b7 : List Pipe, ((pipeV (openF l5 3 b).1 : List (List V)) = pipeV a6) ∧ (
          ((pipeV (openF l4 2 a).1 : List (List V)) = pipeV b7) ∧ (
          (((a6.length : Nat) ≤ 100000)) ∧ (
          br (eqPs ((makeF 0 l3).fst.1, a6) ((makeF 0 l3).fst.1, b7)) (
            K (V.bool true) []) (
            K (V.bool false) []))))) (
          ∃ l6 : List Pipe, ((pipeV (openF l5 3 b).1 : List (List V)) = pipeV l6) ∧ (
          (okL l6) ∧ (
          (((2 : Int) ≤ 9223372036854775807)) ∧ (
          (((a : Int) ≤ 9223372036854775807)) ∧ (
          ∃ l7 : List Pipe, ((pipeV (closeF l6 2 a) : List (List V)) = pipeV l7) ∧ (
          (idsP l7) ∧ (
          (((2 : Int) ≤ 9223372036854775807)) ∧ (
          ∃ l8 : List Pipe, ((pipeV (closeF l6 2 a) : List (List V)) = pipeV l8) ∧ (
          (okL l8) ∧ (
          (((3 : Int) ≤ 9223372036854775807)) ∧ (
          (((b : Int) ≤ 9223372036854775807)) ∧ (
          ∃ l9 : List Pipe, ((pipeV (closeF l8 3 b) : List (List V)) = pipeV l9) ∧ (
          (okL l9) ∧ (
          (((2 : Int) ≤ 9223372036854775807)) ∧ (
          ∃ l10 : List Pipe, ((pipeV (closeF l8 3 b) : List (List V)) = pipeV l10) ∧ (
          (okL l10) ∧ (
          (((3 : Int) ≤ 9223372036854775807)) ∧ (
          br (eqI (walkF l7 2 (ByteArray.mk #[46, 46]).data.toList).2 9) (
            br (eqI (lenL (pipeV (closeF l6 2 a))) 1) (
              br (eqI (lenL (pipeV (closeF l8 3 b))) 0) (
                br (eqI (makeF 0 l3).fst.1 2) (
                  br (eqI (statF l9 2).2 8) (
                    br (eqI (statF l10 3).2 8) (
                      K (V.bool true) []) (
                      K (V.bool false) [])) (
                    K (V.bool false) [])) (
                  K (V.bool false) [])) (
                K (V.bool false) [])) (
              K (V.bool false) [])) (
            K (V.bool false) []))))))))))))))))))))))))))))))))))) := by kernel_rfl

end Go.Proofs.YtjplfafojmkpbaaDoor
namespace Go.Proofs.YtjplfafojmkpbaaDoor
open Go.RowKit
set_option maxRecDepth 100000
set_option linter.unusedVariables false
set_option linter.unusedSimpArgs false
theorem good_ids {n : Int} {l : List Pipe} (h : goodL n l) : idsP l := ⟨by have := h.1; omega, fun x hx => by
  have h1 := (h.2.2.2.1 x hx).1
  have h2 := h.2.2.1
  rw [nextF_pos (by omega)] at h2
  omega⟩
theorem files_says {n : Int} {l : List Pipe} {id : Int} {s : List UInt8} (hid : id ≤ 9223372036854775807) : Says 7 [.agg [.int .i64 n, .lst (pipeV l)], .int .i64 id, .str s] := by
  refine run_of (lp := lpOf []) (ct := ctOf [(8, smallCon), (9, okCon), (10, rightCon), (11, rightCon), (19, walkCon), (21, walkCon), (20, statCon), (22, statCon), (23, listCon), (24, listCon), (25, dsCon)]) (by omega)
    (fun k hk => ctOf_ok (ctOf_cons (small_con (by omega)) (ctOf_cons (ok_con (by omega)) (ctOf_cons (rr_con (by omega)) (ctOf_cons (pr_con (by omega)) (ctOf_cons (wk_con (by omega)) (ctOf_cons (rwk_con (by omega)) (ctOf_cons (stt_con (by omega)) (ctOf_cons (rstt_con (by omega)) (ctOf_cons (ls_con (by omega)) (ctOf_cons (rls_con (by omega)) (ctOf_cons (ds_con (by omega)) (ctOf_nil _))))))))))))) ?_
  rw [lfi_vc]
  have tt : (V.bool true = V.bool true ∧ ([] : List Bk) = []) := ⟨rfl, rfl⟩
  rw [pipeV_lenL]
  rw [br_iff]; refine ⟨fun _ => tt, fun g1 => ?_⟩
  simp only [br_iff, need_iff, andB_t, andB_f, orB_t, orB_f, notB_t, notB_f, leI_t, leI_f, ltI_t, ltI_f, eqI_t, eqI_f, leN_t, leN_f, eqN_t, eqN_f, eqS_t, eqS_f, eqB_t, eqB_f, catOk_t, leC_t] at g1
  refine ⟨l, rfl, by omega, ?_⟩
  rw [br_iff]; refine ⟨fun g3 => ⟨l, rfl, by omega, ?_⟩, fun g3 => ?_⟩
  · rw [g3]; exact tt
  have g3 : rightP n l = true := by simp only [br_iff, need_iff, andB_t, andB_f, orB_t, orB_f, notB_t, notB_f, leI_t, leI_f, ltI_t, ltI_f, eqI_t, eqI_f, leN_t, leN_f, eqN_t, eqN_f, eqS_t, eqS_f, eqB_t, eqB_f, catOk_t, leC_t] at g3; exact g3
  have hg := rightP_good.1 g3
  have ho := good_ok hg
  have hi := good_ids hg
  have hl : (listF l id).1.length ≤ 100000 := by
    unfold listF
    split
    · simp only [listL_len]; omega
    · split <;> simp
  refine ⟨l, rfl, hi, hid, l, rfl, hi, hid, l, rfl, ho, hid, l, rfl, ho, hid, l, rfl, ho, hi, hid, l, rfl, ho, hi, hid, l, rfl, by omega, ?_⟩
  rw [g3, eqI_refl, eqI_refl, eqI_refl]
  simp only [br_tt]
  rw [br_iff]
  refine ⟨fun _ => ⟨_, _, rfl, rfl, hl, ?_⟩, fun q => by simp [strEq] at q⟩
  rw [eqDs_t.2 rfl, eqI_refl]
  exact ⟨trivial, trivial⟩
def PP (ra wa : Int) (va : Bool) (rb wb : Int) (vb : Bool) : Pipe := ⟨1, ⟨[], ra, wa, va⟩, ⟨[], rb, wb, vb⟩⟩
theorem open2 (a : Int) : (openF [PP 0 0 false 0 0 false] 2 a).2 = 0 → modeOk a = true ∧ modI a 16 ≠ 3 ∧ openF [PP 0 0 false 0 0 false] 2 a = ([PP (rdF (modI a 16)) (wrF (modI a 16)) true 0 0 false], 0) := by
  intro h
  have b2 := rdF_r (modI a 16)
  have b3 := wrF_r (modI a 16)
  by_cases hm : modeOk a = true
  · by_cases h3 : modI a 16 = 3
    · unfold openF at h
      rw [if_neg (by rintro ⟨q, _⟩; exact absurd q (by decide)), if_neg (by simp [hm]), if_neg (by omega), if_pos h3] at h
      simp at h
    · refine ⟨hm, h3, ?_⟩
      rw [openF_at (i := 0) (x := PP 0 0 false 0 0 false) rfl rfl (by omega) hm h3]
      have : openE (PP 0 0 false 0 0 false) 2 a = some (PP (0 + rdF (modI a 16)) (0 + wrF (modI a 16)) true 0 0 false) := by
        unfold openE
        rw [show endOf (PP 0 0 false 0 0 false) (modI 2 2) = ⟨[], 0, 0, false⟩ from rfl, if_neg (by simp only; omega)]
        rfl
      rw [this, Int.zero_add, Int.zero_add]; rfl
  · unfold openF at h
    rw [if_neg (by rintro ⟨q, _⟩; exact absurd q (by decide)), if_pos (by simpa using hm)] at h
    simp at h
theorem open3 (r w b : Int) : (openF [PP r w true 0 0 false] 3 b).2 = 0 → modeOk b = true ∧ modI b 16 ≠ 3 ∧ openF [PP r w true 0 0 false] 3 b = ([PP r w true (rdF (modI b 16)) (wrF (modI b 16)) true], 0) := by
  intro h
  have b2 := rdF_r (modI b 16)
  have b3 := wrF_r (modI b 16)
  have hat : atF [PP r w true 0 0 false] 3 = 0 := rfl
  by_cases hm : modeOk b = true
  · by_cases h3 : modI b 16 = 3
    · unfold openF at h
      rw [if_neg (by rw [hat]; omega), if_neg (by simp [hm]), if_neg (by omega), if_pos h3] at h
      simp at h
    · refine ⟨hm, h3, ?_⟩
      rw [openF_at (i := 0) (x := PP r w true 0 0 false) rfl rfl (by omega) hm h3]
      have : openE (PP r w true 0 0 false) 3 b = some (PP r w true (0 + rdF (modI b 16)) (0 + wrF (modI b 16)) true) := by
        unfold openE
        rw [show endOf (PP r w true 0 0 false) (modI 3 2) = ⟨[], 0, 0, false⟩ from rfl, if_neg (by simp only; omega)]
        rfl
      rw [this, Int.zero_add, Int.zero_add]; rfl
  · unfold openF at h
    rw [if_neg (by rw [hat]; omega), if_pos (by simpa using hm)] at h
    simp at h
theorem sum_one {m : Int} (hm : modeOk m = true) (h3 : modI m 16 ≠ 3) : 1 ≤ rdF (modI m 16) + wrF (modI m 16) := by
  have hm' := of_decide_eq_true (show decide _ = true from hm)
  unfold modI at *
  unfold rdF wrF
  split <;> split <;> omega
theorem open_stay (l : List Pipe) (id m : Int) (h : (openF l id m).2 ≠ 0) : (openF l id m).1 = l := by
  unfold openF at h ⊢
  split
  · rfl
  · rename_i h1; rw [if_neg h1] at h
    split
    · rfl
    · rename_i h2; rw [if_neg h2] at h
      split
      · split <;> rfl
      · rename_i h3; rw [if_neg h3] at h
        split
        · rfl
        · rename_i h4; rw [if_neg h4] at h
          split
          · rfl
          · rename_i y hy; rw [hy] at h; simp at h
theorem close2 {a rb wb : Int} (hm : modeOk a = true) (h1 : 1 ≤ rb + wb) (h2 : 0 ≤ rb) (h3 : 0 ≤ wb) : closeF [PP (rdF (modI a 16)) (wrF (modI a 16)) true rb wb true] 2 a = [PP 0 0 true rb wb true] := by
  rw [closeF_at (i := 0) (x := PP (rdF (modI a 16)) (wrF (modI a 16)) true rb wb true) rfl rfl hm]
  have e : closeE (PP (rdF (modI a 16)) (wrF (modI a 16)) true rb wb true) 2 a = PP (maxI (rdF (modI a 16) - rdF (modI a 16)) 0) (maxI (wrF (modI a 16) - wrF (modI a 16)) 0) true rb wb true := rfl
  rw [e, Int.sub_self, Int.sub_self]
  have : finB (PP (maxI 0 0) (maxI 0 0) true rb wb true) = false := by
    rw [← Bool.not_eq_true]
    intro hf
    have hf := of_decide_eq_true (show decide _ = true from hf)
    have a1 := hf.2.2.2.2.1
    have a2 := hf.2.2.2.2.2
    simp only [PP] at a1 a2
    omega
  rw [if_neg (by simp [this])]
  rfl
theorem close3 {b : Int} (hm : modeOk b = true) : closeF [PP 0 0 true (rdF (modI b 16)) (wrF (modI b 16)) true] 3 b = [] := by
  rw [closeF_at (i := 0) (x := PP 0 0 true (rdF (modI b 16)) (wrF (modI b 16)) true) rfl rfl hm]
  have e : closeE (PP 0 0 true (rdF (modI b 16)) (wrF (modI b 16)) true) 3 b = PP 0 0 true (maxI (rdF (modI b 16) - rdF (modI b 16)) 0) (maxI (wrF (modI b 16) - wrF (modI b 16)) 0) true := rfl
  rw [e, Int.sub_self, Int.sub_self]
  rfl
theorem finish_vc {a b : Int} (ha : a ≤ 9223372036854775807) (hb : b ≤ 9223372036854775807) {K : V → List Bk → Prop} (hK : K (.bool true) []) : vcF Tryd.prog cfgN (ctOf [(9, okCon), (13, makeCon), (14, openCon), (18, closeCon), (19, walkCon), (20, statCon), (17, saCon)]) (lpOf []) 6 [.int .i64 a, .int .i64 b] [] K := by
  rw [lfn_vc]
  have g0 : goodL 0 [] := rightP_good.1 (rightP_iff.2 ⟨by simp, by simp [nextF], by simp [nextF], by simp⟩)
  have g1 : goodL 2 [PP 0 0 false 0 0 false] := make_good g0
  have g2 := openF_good (id := 2) (m := a) g1
  have g3 := openF_good (id := 3) (m := b) g2
  refine ⟨[], rfl, by simp, by omega, fun _ => rfl, [PP 0 0 false 0 0 false], rfl, good_ok g1, by omega, ha, _, rfl, good_ok g2, by omega, hb, ?_⟩
  rw [show eqI (makeF 0 []).2.1 1 = true from rfl, show eqI (makeF 0 []).2.2 0 = true from rfl]
  simp only [show notB true = false from rfl, br_ff]
  rw [br_iff]; refine ⟨fun _ => hK, fun q1 => ?_⟩
  obtain ⟨m1, m2, e1⟩ := open2 a (by simp only [br_iff, need_iff, andB_t, andB_f, orB_t, orB_f, notB_t, notB_f, leI_t, leI_f, ltI_t, ltI_f, eqI_t, eqI_f, leN_t, leN_f, eqN_t, eqN_f, eqS_t, eqS_f, eqB_t, eqB_f, catOk_t, leC_t] at q1; exact q1)
  rw [e1] at g2 g3
  simp only [e1]
  rw [br_iff]; refine ⟨fun q2 => ⟨_, _, rfl, rfl, Nat.le_trans g3.1 (by omega), ?_⟩, fun q2 => ?_⟩
  · rw [open_stay _ _ _ (by simp only [br_iff, need_iff, andB_t, andB_f, orB_t, orB_f, notB_t, notB_f, leI_t, leI_f, ltI_t, ltI_f, eqI_t, eqI_f, leN_t, leN_f, eqN_t, eqN_f, eqS_t, eqS_f, eqB_t, eqB_f, catOk_t, leC_t] at q2; exact q2), eqPs_refl]
    exact hK
  obtain ⟨m3, m4, e2⟩ := open3 _ _ b (by simp only [br_iff, need_iff, andB_t, andB_f, orB_t, orB_f, notB_t, notB_f, leI_t, leI_f, ltI_t, ltI_f, eqI_t, eqI_f, leN_t, leN_f, eqN_t, eqN_f, eqS_t, eqS_f, eqB_t, eqB_f, catOk_t, leC_t] at q2; exact q2)
  rw [e2] at g3
  simp only [e2]
  have s1 := sum_one m3 m4
  have b2 := rdF_r (modI b 16)
  have b3 := wrF_r (modI b 16)
  have c2 := close2 (a := a) (rb := rdF (modI b 16)) (wb := wrF (modI b 16)) m1 s1 b2.1 b3.1
  have c3 := close3 (b := b) m3
  have g4 := closeF_good (id := 2) (m := a) g3
  rw [c2] at g4
  have g5 := closeF_good (id := 3) (m := b) g4
  rw [c3] at g5
  refine ⟨_, rfl, good_ok g3, by omega, ha, [PP 0 0 true (rdF (modI b 16)) (wrF (modI b 16)) true], by rw [c2], good_ids g4, by omega, [PP 0 0 true (rdF (modI b 16)) (wrF (modI b 16)) true], by rw [c2], good_ok g4, by omega, hb, [], by rw [c3], good_ok g5, by omega, [], by rw [c3], good_ok g5, by omega, ?_⟩
  rw [c2, c3]
  have w1 : eqI (walkF [PP 0 0 true (rdF (modI b 16)) (wrF (modI b 16)) true] 2 (ByteArray.mk #[46, 46]).data.toList).2 9 = true := by
    unfold walkF
    rw [if_neg (by omega), if_neg (by rw [show atF [PP 0 0 true (rdF (modI b 16)) (wrF (modI b 16)) true] 2 = 0 from rfl]; omega)]
    rfl
  rw [w1]
  exact hK
theorem finish_says {a b : Int} (ha : a ≤ 9223372036854775807) (hb : b ≤ 9223372036854775807) : Says 6 [.int .i64 a, .int .i64 b] :=
  run_of (by omega) (fun k hk => ctOf_ok (ctOf_cons (ok_con (by omega)) (ctOf_cons (mk_con (by omega)) (ctOf_cons (op_con (by omega)) (ctOf_cons (cs_con (by omega)) (ctOf_cons (wk_con (by omega)) (ctOf_cons (stt_con (by omega)) (ctOf_cons (sa_con (by omega)) (ctOf_nil _))))))))) (finish_vc ha hb ⟨rfl, rfl⟩)
def filesSh : List Sh := [pipesSh, .int .i64, .str]
def finishSh : List Sh := [.int .i64, .int .i64]
theorem files_fits {us : List V} (h : FitsAll filesSh us) : Says 7 us := by
  obtain ⟨v0, r0, rfl, h0, v1, r1, rfl, ⟨id, h1, _, h12⟩, v2, r2, rfl, ⟨s, h2, _⟩, rfl⟩ := h
  obtain ⟨n, l, rfl⟩ := pipes_fits h0
  simp only [List.cons.injEq, and_true] at h1 h2
  subst h1; subst h2
  exact files_says h12
theorem finish_fits {us : List V} (h : FitsAll finishSh us) : Says 6 us := by
  obtain ⟨v0, r0, rfl, ⟨a, h0, _, h02⟩, v1, r1, rfl, ⟨b, h1, _, h12⟩, rfl⟩ := h
  simp only [List.cons.injEq, and_true] at h0 h1
  subst h0; subst h1
  exact finish_says h02 h12
end Go.Proofs.YtjplfafojmkpbaaDoor
