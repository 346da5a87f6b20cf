/- Reading: one contract each for the program's and the reference's function. -/
import Derived.Test.YtcnoefpckiionaaRefRead
namespace Go.Proofs.Ytcnoefpckiionaa
open Go.RowKit
set_option linter.unusedSimpArgs false
set_option linter.unusedVariables false
def readN (count : Int) (f : ByteArray) : Nat := (min (max count 0) (f.size : Int)).toNat
def readF (l : LineD) (count : Int) : LineD × ByteArray × Bool :=
  match l.ready with
  | [] => (l, emS, true)
  | f :: ss => if readN count f = f.size then (⟨l.raw, l.text, ss⟩, f, false) else (⟨l.raw, l.text, f.extract (readN count f) f.size :: ss⟩, f.extract 0 (readN count f), false)
theorem readN_le (count : Int) (f : ByteArray) : readN count f ≤ f.size ∧ min (max count 0) (f.size : Int) = readN count f := by
  unfold readN; omega
theorem read_any (l : LineD) (count : Int) (v : Value) (w : World) (hv : LineV w l v) (hR : Right l) :
    Calls Try.prog 17 #[v, .int .i64 count] w (ReadPost w (readF l count).1 (readF l count).2.1 (readF l count).2.2) := by
  obtain ⟨a1, a2, a3, a4, a5⟩ := (right_iff l).1 hR
  obtain ⟨A, c, rfl, hr, hA, hc1, hc2⟩ := hv
  obtain ⟨r, t, ss⟩ := l
  rcases ss with _ | ⟨f, ss⟩
  · exact read_none w r t A c (fun h => (hA h).2) count
  · have hf := a5 f (List.mem_cons_self ..)
    simp only [List.length_cons] at a3
    obtain ⟨h1, h2⟩ := readN_le count f
    unfold readF
    simp only
    by_cases hn : readN count f = f.size
    · rw [if_pos hn]
      exact read_all w r t A c f ss _ hr (by omega) (by omega) count (by rw [h2, hn]) hn
    · rw [if_neg hn]
      exact read_part w r t A c f ss _ hr (by omega) (by omega) count h2 (by omega)
theorem refRead_any (l : LineD) (count : Int) (v : Value) (w : World) (hv : LineV w l v) (hR : Right l) :
    Calls Try.prog 18 #[v, .int .i64 count] w (ReadPost w (readF l count).1 (readF l count).2.1 (readF l count).2.2) := by
  obtain ⟨a1, a2, a3, a4, a5⟩ := (right_iff l).1 hR
  obtain ⟨A, c, rfl, hr, hA, hc1, hc2⟩ := hv
  obtain ⟨r, t, ss⟩ := l
  rcases ss with _ | ⟨f, ss⟩
  · exact refRead_none w r t A c count (fun h => (hA h).2) hc2
  · have hf := a5 f (List.mem_cons_self ..)
    simp only [List.length_cons] at a3
    obtain ⟨h1, h2⟩ := readN_le count f
    unfold readF
    simp only
    by_cases hn : readN count f = f.size
    · rw [if_pos hn]
      by_cases hc : c = 1
      · exact refRead_all1 w r t A c f ss _ hr (by omega) (by omega) hc1 hc2 count (by rw [h2, hn]) hn hc
      · exact refRead_all2 w r t A c f ss _ hr (by omega) (by omega) hc1 hc2 count (by rw [h2, hn]) hn hc
    · rw [if_neg hn]
      by_cases hc : c = 1
      · exact refRead_part1 w r t A c f ss _ hr (by omega) (by omega) hc1 hc2 count h2 (by omega) hc
      · exact refRead_part2 w r t A c f ss _ hr (by omega) (by omega) hc1 hc2 count h2 (by omega) hc
end Go.Proofs.Ytcnoefpckiionaa
