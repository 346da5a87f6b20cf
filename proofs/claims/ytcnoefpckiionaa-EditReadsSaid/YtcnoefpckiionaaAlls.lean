/- Blocks whose cells are all stored anew. -/
import Derived.Test.YtcnoefpckiionaaMem
namespace Go.Proofs.Ytcnoefpckiionaa
open Go.RowKit
variable {w : World} {g : Nat} {t : TypeId}
theorem Blk.all2 {v0 v1 u0 u1 : Value} (h : Blk w g t #[v0, v1]) : Blk ((w.setCell ⟨g, 0, none⟩ u0).setCell ⟨g, 1, none⟩ u1) g t #[u0, u1] := by
  have h0 : Blk _ g t #[u0, v1] := Blk.set_ h 0 u0
  have h1 : Blk _ g t #[u0, u1] := Blk.set_ h0 1 u1
  exact h1
theorem Blk.all3 {v0 v1 v2 u0 u1 u2 : Value} (h : Blk w g t #[v0, v1, v2]) : Blk (((w.setCell ⟨g, 0, none⟩ u0).setCell ⟨g, 1, none⟩ u1).setCell ⟨g, 2, none⟩ u2) g t #[u0, u1, u2] := by
  have h0 : Blk _ g t #[u0, v1, v2] := Blk.set_ h 0 u0
  have h1 : Blk _ g t #[u0, u1, v2] := Blk.set_ h0 1 u1
  have h2 : Blk _ g t #[u0, u1, u2] := Blk.set_ h1 2 u2
  exact h2
theorem Blk.all4 {v0 v1 v2 v3 u0 u1 u2 u3 : Value} (h : Blk w g t #[v0, v1, v2, v3]) : Blk ((((w.setCell ⟨g, 0, none⟩ u0).setCell ⟨g, 1, none⟩ u1).setCell ⟨g, 2, none⟩ u2).setCell ⟨g, 3, none⟩ u3) g t #[u0, u1, u2, u3] := by
  have h0 : Blk _ g t #[u0, v1, v2, v3] := Blk.set_ h 0 u0
  have h1 : Blk _ g t #[u0, u1, v2, v3] := Blk.set_ h0 1 u1
  have h2 : Blk _ g t #[u0, u1, u2, v3] := Blk.set_ h1 2 u2
  have h3 : Blk _ g t #[u0, u1, u2, u3] := Blk.set_ h2 3 u3
  exact h3
theorem Blk.all5 {v0 v1 v2 v3 v4 u0 u1 u2 u3 u4 : Value} (h : Blk w g t #[v0, v1, v2, v3, v4]) : Blk (((((w.setCell ⟨g, 0, none⟩ u0).setCell ⟨g, 1, none⟩ u1).setCell ⟨g, 2, none⟩ u2).setCell ⟨g, 3, none⟩ u3).setCell ⟨g, 4, none⟩ u4) g t #[u0, u1, u2, u3, u4] := by
  have h0 : Blk _ g t #[u0, v1, v2, v3, v4] := Blk.set_ h 0 u0
  have h1 : Blk _ g t #[u0, u1, v2, v3, v4] := Blk.set_ h0 1 u1
  have h2 : Blk _ g t #[u0, u1, u2, v3, v4] := Blk.set_ h1 2 u2
  have h3 : Blk _ g t #[u0, u1, u2, u3, v4] := Blk.set_ h2 3 u3
  have h4 : Blk _ g t #[u0, u1, u2, u3, u4] := Blk.set_ h3 4 u4
  exact h4
theorem Blk.all6 {v0 v1 v2 v3 v4 v5 u0 u1 u2 u3 u4 u5 : Value} (h : Blk w g t #[v0, v1, v2, v3, v4, v5]) : Blk ((((((w.setCell ⟨g, 0, none⟩ u0).setCell ⟨g, 1, none⟩ u1).setCell ⟨g, 2, none⟩ u2).setCell ⟨g, 3, none⟩ u3).setCell ⟨g, 4, none⟩ u4).setCell ⟨g, 5, none⟩ u5) g t #[u0, u1, u2, u3, u4, u5] := by
  have h0 : Blk _ g t #[u0, v1, v2, v3, v4, v5] := Blk.set_ h 0 u0
  have h1 : Blk _ g t #[u0, u1, v2, v3, v4, v5] := Blk.set_ h0 1 u1
  have h2 : Blk _ g t #[u0, u1, u2, v3, v4, v5] := Blk.set_ h1 2 u2
  have h3 : Blk _ g t #[u0, u1, u2, u3, v4, v5] := Blk.set_ h2 3 u3
  have h4 : Blk _ g t #[u0, u1, u2, u3, u4, v5] := Blk.set_ h3 4 u4
  have h5 : Blk _ g t #[u0, u1, u2, u3, u4, u5] := Blk.set_ h4 5 u5
  exact h5
end Go.Proofs.Ytcnoefpckiionaa
