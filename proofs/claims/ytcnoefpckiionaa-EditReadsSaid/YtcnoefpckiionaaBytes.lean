/- Strings of one byte, and small facts on byte strings. -/
import Derived.Test.YtcnoefpckiionaaMem
namespace Go.Proofs.Ytcnoefpckiionaa
open Go.RowKit
set_option linter.unusedSimpArgs false
set_option linter.unusedVariables false
def byteS (n : Int) : ByteArray := ⟨#[UInt8.ofNat n.toNat]⟩
theorem byteS_size (n : Int) : (byteS n).size = 1 := rfl
theorem run_conv_one {P : Program} (src e dst : TypeId) (hs : P.underlying src = some (.slice e)) (he : P.underlying e = some (.int .u8)) (hd : P.underlying dst = some .string) (n : Int) (w : World) :
    (convert src dst (.slice (some ⟨w.heap.size, 0, none⟩) 1 1)).run P (w.alloc (.cells #[.int .u8 n] e)) = .ok (.string (byteS n)) (w.alloc (.cells #[.int .u8 n] e)) := by
  have h := run_convert_bytes_arg (P := P) (w.alloc (.cells #[.int .u8 n] e)) src e hs he w.heap.size 0 1 1 [n] rfl (fun i hi => by
    obtain rfl : i = 0 := by omega
    exact (Blk.new w e #[.int .u8 n]).cell 0) dst hd
  exact h
theorem run_conv_at {P : Program} (src e dst : TypeId) (hs : P.underlying src = some (.slice e)) (he : P.underlying e = some (.int .u8)) (hd : P.underlying dst = some .string) (n : Int) (w : World) (g : Nat) (hg : g = w.heap.size) :
    (convert src dst (.slice (some ⟨g, 0, none⟩) 1 1)).run P (w.alloc (.cells #[.int .u8 n] e)) = .ok (.string (byteS n)) (w.alloc (.cells #[.int .u8 n] e)) := by
  subst hg; exact run_conv_one src e dst hs he hd n w
theorem run_conv_drew {P : Program} (src e dst : TypeId) (hs : P.underlying src = some (.slice e)) (he : P.underlying e = some (.int .u8)) (hd : P.underlying dst = some .string) (n : Int) (w : World) (g : Nat) (hg : g = w.heap.size) :
    (convert src dst (.slice (some ⟨g, 0, none⟩) 1 1)).run P (w.alloc (.cells #[.int .u8 n] e)).drew = .ok (.string (byteS n)) (w.alloc (.cells #[.int .u8 n] e)).drew :=
  run_conv_at src e dst hs he hd n w.drew g hg
end Go.Proofs.Ytcnoefpckiionaa
