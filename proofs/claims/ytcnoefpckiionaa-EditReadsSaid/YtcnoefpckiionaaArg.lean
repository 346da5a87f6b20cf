/- A Line that came in, opened. -/
import Derived.Test.YtcnoefpckiionaaRows
import Derived.Test.YtcnoefpckiionaaLawRight
import Derived.WalkKit
import Derived.ProofKit
import Derived.OpenShut
import Derived.ShutString
import Derived.ChangeOld
import Derived.Below
import Derived.SliceStrings
import Derived.SizedLaws
import Derived.Lib.SmallJoins
namespace Go.Proofs.Ytcnoefpckiionaa
open Go.ChangeShapes Go.WideShapes Go.ChangeAt Go.RowKit Go.Joins
open Go.ChangeMaps (open_string shut_string)
set_option linter.unusedSimpArgs false
set_option linter.unusedVariables false
theorem seatOwn : ownKnob Try.prog.godebug = none := by kernel_rfl
theorem seatLaid : laidOutB Try.prog = true := by kernel_rfl
theorem cellsLine : Try.prog.cellsOf 24 = 3 := by kernel_rfl
theorem bytesStr : Try.prog.bytesOf 9 = 16 := by kernel_rfl
theorem weights_strs {H : Type} {P : Program} {e : TypeId} : ∀ (ss : List ByteArray) (s : ByteArray), s ∈ ss → s.size ∈ DataW.weightsAll (H := H) P e (strs ss)
  | a :: ss, s, h => by
    simp only [strs, List.map_cons, DataW.weightsAll, DataW.weights, List.mem_append, List.mem_cons, List.mem_singleton]
    rcases List.mem_cons.1 h with rfl | h
    · left; left; exact rfl
    · right; exact weights_strs ss s h
theorem reads_open {w : World} {a : Addr} {len : Nat} {ss : List ByteArray} (hl : len ≤ ss.length) (hc : ∀ i, i < ss.length → w.cell? (a.add i) = some (.string (ss.getD i ByteArray.empty))) :
    Reads w w.heap.size 1 (some a) len (strsV (ss.take len)) := by
  refine ⟨by simp [strsV]; omega, fun hn => ?_⟩
  obtain ⟨b, off, spot⟩ := a
  have hspot : spot = none := by simpa [Addr.add] using World.cell?_spot (hc 0 (by omega))
  subst hspot
  refine ⟨b, off, rfl, World.block_lt_of_cell? w _ (hc 0 (by omega)), fun j u hu => ?_⟩
  obtain ⟨hj, rfl⟩ := strsV_get hu
  have hj' : j < len := by simp at hj; omega
  have := hc j (by omega)
  rw [Addr.add_lit] at this
  rw [this, List.getElem_take, List.getD_eq_getElem?_getD, List.getElem?_eq_getElem (by omega)]
  rfl
theorem lineArg {H : Type} {enc : TypeId × Value → H} {W : World} {b0 : Nat} {v : Value} {d : DataW H} {p : List MemPlace} (hv : Value.okWide Try.prog W .any b0 24 v)
    (h : DataW.Trod enc Try.prog W 0 (fun _ => true) true 24 v d p) :
    ∃ l A c, v = .agg #[.bool l.raw, .string l.text, .slice A l.ready.length c] ∧ ((∀ n ∈ d.weights Try.prog 24, n ≤ reachBytes) → ArgLine W l A c) := by
  obtain ⟨v0, v1, v2, y0, y1, y2, n, rfl, rfl, rfl, h0, h1, h2⟩ := open_agg3 Try.underlying24 (by kernel_rfl) cellsLine hv h
  obtain ⟨r, e0, rfl⟩ := DataW.trod_bool Try.underlying4 h0
  obtain ⟨t, e1, rfl, _⟩ := DataW.trod_string Try.underlying9 h1
  simp only [List.cons.injEq, and_true] at e0 e1
  subst e0 e1
  rcases open_strings Try.underlying22 Try.underlying9 (by kernel_rfl) h2 with ⟨e2, rfl⟩ | ⟨a, len, cap, ss, e2, _, hl, hm, hlen, rfl, hc, hs⟩
  · simp only [List.cons.injEq, and_true] at e2
    subst e2
    refine ⟨⟨r, t, []⟩, none, 0, rfl, fun hz => ⟨Reads.none_, fun _ => ⟨rfl, rfl⟩, Nat.le_refl _, Nat.zero_le _, ?_, Nat.zero_le _, fun s h => by cases h⟩⟩
    exact hz t.size (by simp [DataW.weights, Try.underlying24, DataW.weightsEach])
  · simp only [List.cons.injEq, and_true] at e2
    subst e2
    rw [if_pos rfl] at hlen
    have htl : (ss.take len).length = len := by simp; omega
    refine ⟨⟨r, t, ss.take len⟩, some a, cap, by simp only [htl], fun hz => ⟨?_, fun e => (by cases e), by simp only [htl]; omega, hm, ?_, ?_, fun s h => ?_⟩⟩
    · simp only [htl]; exact reads_open (by omega) hc
    · exact hz t.size (by simp [DataW.weights, Try.underlying24, DataW.weightsEach])
    · have := hz (((strs (H := H) (ss.take len)).length + (strs (H := H) (ss.drop len)).length) * Try.prog.bytesOf 9) (by simp [DataW.weights, Try.underlying24, Try.underlying22, DataW.weightsEach])
      rw [bytesStr] at this
      simp only [strs, List.length_map, reachBytes] at this
      show (ss.take len).length ≤ 140737488351232
      omega
    · exact hz s.size (by
        have := weights_strs (H := H) (P := Try.prog) (e := 9) _ _ h
        simp [DataW.weights, Try.underlying24, Try.underlying22, DataW.weightsEach, this])
end Go.Proofs.Ytcnoefpckiionaa
