/- strings.Builder, by contracts that say what else stays as it was. -/
import Derived.Test.YtcnoefpckiionaaRows
import Derived.Test.YtcnoefpckiionaaMem
import Derived.Laws.Externs
import Derived.Lib.Builder
import Derived.Lib.AppendStr
import Derived.Lib.UnsafeStr
namespace Go.Proofs.Ytcnoefpckiionaa
open Go.RowKit
set_option linter.unusedSimpArgs false
set_option linter.unusedVariables false
/-- Block i is a row of elements of type e. -/
def ElemIs (w : World) (e : TypeId) (i : Nat) : Prop := ∃ cur fr, w.heap[i]? = some (.cells cur e fr)
theorem Own.elemIs {w : World} {base size n c : Nat} {e : TypeId} {A : Option Addr} {xs : List Value} (h : Own w base e size A n c xs) {i : Nat} (hA : A = some ⟨i, 0, none⟩) : ElemIs w e i := by
  rcases h.cases with ⟨rfl, _⟩ | ⟨g, cur, rfl, _, _, hg, _⟩
  · cases hA
  · injection hA with hA
    injection hA with e1
    subst e1
    exact ⟨cur, (0, 0), hg⟩
theorem Blk.not_elem {w : World} {g : Nat} {t e : TypeId} {cs : Array Value} (h : Blk w g t cs) (hne : t ≠ e) : ¬ ElemIs w e g := by
  rintro ⟨cur, fr, h'⟩
  unfold Blk at h
  rw [h] at h'
  injection h' with h'
  injection h' with _ h'
  exact hne h'
theorem Own.not_elem {w : World} {base size n c : Nat} {e e' : TypeId} {A : Option Addr} {xs : List Value} (h : Own w base e size A n c xs) (hne : e ≠ e') {i off : Nat} (hA : A = some ⟨i, off, none⟩) : ¬ ElemIs w e' i := by
  rcases h.cases with ⟨rfl, _⟩ | ⟨g, cur, rfl, _, _, hg, _⟩
  · cases hA
  · injection hA with hA
    injection hA with e1
    subst e1
    exact Blk.not_elem (t := e) hg hne
/-- The builder in block bb holds the text s, its buffer lying from 'base' on. -/
def Bld (w : World) (bb base : Nat) (s : ByteArray) : Prop :=
  ∃ p A c, (p = .pointer none ∨ p = .pointer (some ⟨bb, 0, none⟩)) ∧ Blk w bb 47 #[p, .slice A s.size c] ∧ Own w base 5 1 A s.size c (Lib.strCells s)
theorem Bld.fr {w w' : World} {bb base : Nat} {s : ByteArray} {S : Nat → Prop} (h : Bld w bb base s) (hf : Fr S w w') (h1 : ¬ S bb) (h2 : ∀ i, ElemIs w 5 i → ¬ S i) : Bld w' bb base s := by
  obtain ⟨p, A, c, hp, hb, ho⟩ := h
  refine ⟨p, A, c, hp, hb.fr hf h1, ho.fr hf (fun g off hA => h2 g ?_)⟩
  rcases ho.cases with ⟨rfl, _⟩ | ⟨g', cur, rfl, _, _, hg, _⟩
  · cases hA
  · injection hA with hA
    injection hA with e1
    subst e1
    exact ⟨cur, (0, 0), hg⟩
theorem sizeBuilder : ∃ j, Try.prog.info? 47 = some j ∧ j.size = 2 := by
  have h : (Try.prog.info? 47).map (·.size) = some 2 := by kernel_rfl
  exact Option.map_eq_some_iff.1 h
theorem liesBuilder : liesAt Try.prog Try.prog.depth 47 (2 / Try.prog.cellsOf 47) 0 47 1 = true := by kernel_rfl
set_option maxRecDepth 100000 in
set_option maxHeartbeats 800000 in
theorem copyCheck_fresh (bb : Nat) (v : Value) (w : World) (hb : Blk w bb 47 #[.pointer none, v]) :
    Calls Try.prog 40 #[.pointer (some ⟨bb, 0, none⟩)] w fun e w' => e = .returned (.tuple #[]) ∧ w' = w.setCell ⟨bb, 0, none⟩ (.pointer (some ⟨bb, 0, none⟩)) := by
  obtain ⟨c0, c1, f0⟩ := hb.c2
  obtain ⟨j, hj, hjs⟩ := sizeBuilder
  have hsh : w.shape? bb = some (47, 2) := by unfold Blk at hb; simp [World.shape?, hb]
  clear hb
  go_enter Try.func40, Try.ntmps40
  go_wp2
  rw [Lib.run_to_unsafe w ⟨bb, 0, none⟩ Try.underlying44 Try.underlying65 hj (by rw [hjs]; decide) hsh (Nat.zero_lt_succ 1)]
  simp only [Result.andThen]
  rw [Oper.upon_value]
  go_wp2
  rw [run_callFunc_extern Try.func43 (by kernel_rfl) (by kernel_rfl) (by kernel_rfl) (e := Extern.AbiNoEscape.same) (by kernel_rfl)]
  rw [Lib.run_noEscape]
  simp only [Result.andThen]
  rw [Oper.upon_value]
  go_wp2
  rw [Lib.run_from_unsafe w ⟨bb, 0, none⟩ Try.underlying65 Try.underlying44 hj hsh liesBuilder]
  simp only [Result.andThen]
  rw [Oper.upon_value]
  go_wp2
  go_end0
  exact ⟨rfl, rfl⟩
set_option maxRecDepth 100000 in
set_option maxHeartbeats 800000 in
theorem copyCheck_used (bb : Nat) (v : Value) (w : World) (hb : Blk w bb 47 #[.pointer (some ⟨bb, 0, none⟩), v]) :
    Calls Try.prog 40 #[.pointer (some ⟨bb, 0, none⟩)] w fun e w' => e = .returned (.tuple #[]) ∧ w' = w := by
  obtain ⟨c0, c1, f0⟩ := hb.c2
  clear hb
  obtain ⟨j, hj, hjs⟩ := sizeBuilder
  go_enter Try.func40, Try.ntmps40
  go_wp2
  rw [Lib.run_neq_ptr_same w _ Try.underlying44 hj]
  go_wp2
  go_end0
  exact ⟨rfl, rfl⟩
theorem slU8 : SlT Try.prog 45 5 (.int .u8 0) 1 1 := SlT.mk' Try.underlying45 (by kernel_rfl) rfl (by omega) (by omega)
theorem strCells_append (a b : ByteArray) : Lib.strCells (a ++ b) = Lib.strCells a ++ Lib.strCells b := by
  unfold Lib.strCells
  rw [show (a ++ b).data.toList = a.data.toList ++ b.data.toList by simp, List.map_append]
set_option maxRecDepth 100000 in
set_option maxHeartbeats 800000 in
theorem writeString_any (bb base : Nat) (s t : ByteArray) (w : World) (hb : Bld w bb base s) (hbase : base ≤ w.heap.size) (hl : s.size + t.size ≤ 140737488355328) :
    Calls Try.prog 31 #[.pointer (some ⟨bb, 0, none⟩), .string t] w fun e w' => e = .returned (.tuple #[.int .i64 t.size, .nilIface]) ∧ Bld w' bb base (s ++ t) ∧ Fr (fun i => i = bb ∨ base ≤ i ∧ ElemIs w 5 i) w w' := by
  obtain ⟨i0, hi, hz0, hz1, hz2⟩ := slU8.info
  obtain ⟨p, A, c, hp, hb, ho⟩ := hb
  have HC : Hid (Calls Try.prog 40 #[.pointer (some ⟨bb, 0, none⟩)] w fun e w' => e = .returned (.tuple #[]) ∧ Blk w' bb 47 #[.pointer (some ⟨bb, 0, none⟩), .slice A s.size c] ∧ Own w' base 5 1 A s.size c (Lib.strCells s) ∧ Fr (fun i => i = bb) w w') := by
    rcases hp with rfl | rfl
    · refine (copyCheck_fresh bb _ w hb).mono ?_
      rintro e w' ⟨rfl, rfl⟩
      exact ⟨rfl, hb.set_ 0 _, ho.setCell (fun g off hA => ho.ne_blk hb (by decide) g off hA) _, Fr.setCell (S := fun i => i = bb) (p := ⟨bb, 0, none⟩) (Fr.refl _ _) (.inr rfl) _⟩
    · refine (copyCheck_used bb _ w hb).mono ?_
      rintro e w' ⟨rfl, rfl⟩
      exact ⟨rfl, hb, ho, Fr.refl _ _⟩
  have HE := Lib.hid (fun i (hA : A = some ⟨i, 0, none⟩) => And.intro (ho.lt hA).1 (ho.elemIs hA))
  clear hb ho hp
  go_enter Try.func31, Try.ntmps31
  go_wp2_with fail
  refine HC.out.mono ?_
  rintro e w1 ⟨rfl, hb1, ho1, hf1⟩
  obtain ⟨d0, d1, g0⟩ := hb1.c2
  have HB1 := Lib.hid hb1
  have HO1 := Lib.hid ho1
  have HF1 := Lib.hid hf1
  clear hb1 ho1 hf1
  go_wp2_with (at_builtin; refine Lib.wpList_append_own_string _ rfl _ _ 45 9 rfl base 5 i0 Try.underlying45 Try.underlying9 hi hz0 hz1 hz2 (.slice A s.size c) s.size _ rfl HO1.out t rfl (by unfold maxLen; omega) hl (by have := HF1.out.size; omega) ?_; intro v' w2 ho2 hg2 _; obtain ⟨A2, c2, rfl⟩ : ∃ A2 c2, v' = .slice A2 (s.size + t.size) c2 := (by rcases ho2.2 with ⟨hv, hn⟩ | ⟨g, cap, cur, hv, _⟩; exact ⟨none, 0, by rw [hv, hn]⟩; exact ⟨_, _, hv⟩); have b2 := HB1.out.fr (Fr.of_grown hg2) (fun e => by rcases HO1.out.cases with ⟨rfl, _⟩ | ⟨g, cur, rfl, _, _, hg, _⟩; simp [Value.ownBlock] at e; simp [Value.ownBlock] at e; exact Blk.ne_ (t := 5) hg HB1.out (by decide) e); obtain ⟨e0, e1, g2⟩ := b2.c2; have HO2 := Lib.hid ho2; have HG2 := Lib.hid hg2; have HB2 := Lib.hid b2; clear ho2 hg2 b2)
  go_ret2
  have ho2 : Own w2 base 5 1 A2 (s.size + t.size) c2 (Lib.strCells (s ++ t)) := by rw [strCells_append]; exact HO2.out
  refine ⟨rfl, ⟨.pointer (some ⟨bb, 0, none⟩), A2, c2, .inr rfl, ?_, ?_⟩, ?_⟩
  · rw [ByteArray.size_append]; exact HB2.out.set_ 1 _
  · rw [ByteArray.size_append]; exact ho2.setCell (fun g off hA => ho2.ne_blk HB2.out (by decide) g off hA) _
  · refine Fr.setCell ?_ (.inr (.inl rfl)) _
    refine (HF1.out.mono (fun i _ h => .inl h)).trans (Fr.of_grown HG2.out) (fun i _ h => .inr ?_)
    rcases HO1.out.cases with ⟨rfl, _⟩ | ⟨g, cur, rfl, _⟩
    · simp [Value.ownBlock] at h
    · simp [Value.ownBlock] at h
      subst h
      exact HE.out _ rfl
theorem Fr.freeze {S : Nat → Prop} {w w' : World} (h : Fr S w w') {p : Addr} (hp : w.heap.size ≤ p.block ∨ S p.block) (n : Nat) : Fr S w (w'.freeze p n) := by
  unfold World.freeze
  split
  · exact h
  · refine ⟨h.os, h.tape, h.output, by have := h.size; simp; omega, fun k hk hn => ?_⟩
    rw [← h.block k hk hn]
    simp only [Array.getElem?_modify]
    rw [if_neg (by rintro rfl; rcases hp with hp | hp; omega; exact hn hp)]
set_option maxRecDepth 100000 in
set_option maxHeartbeats 800000 in
theorem bldString_any (bb base : Nat) (s : ByteArray) (w : World) (hb : Bld w bb base s) (hl : s.size ≤ 140737488355328) :
    Calls Try.prog 33 #[.pointer (some ⟨bb, 0, none⟩)] w fun e w' => e = .returned (.string s) ∧ Fr (fun i => base ≤ i ∧ ElemIs w 5 i) w w' := by
  obtain ⟨p, A, c, hp, hb, ho⟩ := hb
  obtain ⟨c0, c1, f0⟩ := hb.c2
  have hlt := hb.lt
  have hUS := fun (W : World) (q : Option Addr) => Lib.run_unsafeString_none (P := Try.prog) W 64 3 9 q
  have d1 : w.drew.cell? ⟨bb, 1, none⟩ = some (.slice A s.size c) := c1
  by_cases h0 : s.size = 0
  · have hs : s = ⟨#[]⟩ := by
      apply ByteArray.ext; apply Array.ext'
      have : s.data.toList.length = 0 := by simpa using h0
      rw [List.eq_nil_of_length_eq_zero this]
    subst hs
    rcases ho.cases with ⟨rfl, _, rfl⟩ | ⟨g, cur, rfl, _, hgl, hg, hnc, hcm, hcs, _⟩
    · have hSD : (Builtin.unsafeSliceData_ #[45] 64 #[.slice none 0 0]).run Try.prog w.drew = .ok (.pointer none) w.drew := rfl
      clear hb ho hp h0 hl
      go_enter Try.func33, Try.ntmps33
      go_wp2
      go_region
      all_goals (go_wp2; go_ret; exact ⟨rfl, (Fr.refl _ w).drew⟩)
    · by_cases hc0 : c = 0
      · subst hc0
        have hSD : (Builtin.unsafeSliceData_ #[45] 64 #[.slice (some ⟨g, 0, none⟩) 0 0]).run Try.prog w.drew = .ok (.pointer (some ⟨w.drew.heap.size, 0, none⟩)) (w.drew.alloc (.view ⟨g, 0, none⟩ 5)) :=
          Lib.run_unsafeSliceData_zero w.drew _ _ 5 Try.underlying64 ⟨g, 0, none⟩ 0 (5, cur.size) (by have hg' : w.drew.heap[g]? = some (.cells cur 5 (0, 0)) := hg; simp [World.shape?, hg'])
        have b2 : Blk (w.drew.alloc (.view ⟨g, 0, none⟩ 5)) bb 47 #[p, .slice (some ⟨g, 0, none⟩) 0 0] := Blk.alloc hb.drew _
        have c2 : (w.drew.alloc (.view ⟨g, 0, none⟩ 5)).cell? ⟨bb, 1, none⟩ = some (.slice (some ⟨g, 0, none⟩) 0 0) := b2.cell 1
        have c3 : (w.alloc (.view ⟨g, 0, none⟩ 5)).drew.cell? ⟨bb, 1, none⟩ = some (.slice (some ⟨g, 0, none⟩) 0 0) := c2
        clear hb ho hp h0 hl b2
        go_enter Try.func33, Try.ntmps33
        go_wp2
        go_region
        all_goals (go_wp2; go_ret; exact ⟨rfl, ((Fr.refl _ w).drew).alloc _⟩)
      · have hSD : (Builtin.unsafeSliceData_ #[45] 64 #[.slice (some ⟨g, 0, none⟩) 0 c]).run Try.prog w.drew = .ok (.pointer (some ⟨g, 0, none⟩)) w.drew :=
          Lib.run_unsafeSliceData_row _ _ _ _ _ _ hc0
        clear hb ho hp h0 hl hc0
        go_enter Try.func33, Try.ntmps33
        go_wp2
        go_region
        all_goals (go_wp2; go_ret; exact ⟨rfl, (Fr.refl _ w).drew⟩)
  · rcases ho.cases with ⟨_, h0', _⟩ | ⟨g, cur, rfl, _, hgl, hg, hnc, hcm, hcs, _⟩
    · exact absurd h0' h0
    · have hE := And.intro (ho.lt (off := 0) rfl).1 (ho.elemIs rfl)
      have hSD : (Builtin.unsafeSliceData_ #[45] 64 #[.slice (some ⟨g, 0, none⟩) s.size c]).run Try.prog w.drew = .ok (.pointer (some ⟨g, 0, none⟩)) w.drew :=
        Lib.run_unsafeSliceData_row _ _ _ _ _ _ (by omega)
      have hsz : s.data.toList.length = s.size := by simp
      have hUS2 : (Builtin.unsafeString_ #[64, 3] 9 #[.pointer (some ⟨g, 0, none⟩), .int .i64 s.size]).run Try.prog w.drew = .ok (.string s) (w.drew.freeze ⟨g, 0, none⟩ s.size) := by
        have := Lib.run_unsafeString_row (P := Try.prog) w.drew 64 3 9 5 Try.underlying64 (by kernel_rfl) g cur.size (by have hg' : w.drew.heap[g]? = some (.cells cur 5 (0, 0)) := hg; simp [World.shape?, hg']) s.data.toList (by intro h; rw [h] at hsz; simp at hsz; omega) (by omega) (by unfold maxLen at hcm; omega) (by
          intro j x hx
          rw [Addr.add_lit]
          have := Own.cellAt ho (0 + j) (by have := (List.getElem?_eq_some_iff.1 hx).1; omega)
          have h2 : w.cell? ⟨g, 0 + j, none⟩ = (Lib.strCells s)[0 + j]? := this
          show w.cell? ⟨g, 0 + j, none⟩ = _
          rw [h2]; simp [Lib.strCells, hx])
        rw [hsz] at this
        exact this
      clear hb ho hp hl h0 hnc hcm hcs hg hUS hsz
      go_enter Try.func33, Try.ntmps33
      go_wp2
      go_region
      all_goals (go_wp2; go_ret; exact ⟨rfl, ((Fr.refl _ w).drew).freeze (.inr hE) _⟩)
end Go.Proofs.Ytcnoefpckiionaa
