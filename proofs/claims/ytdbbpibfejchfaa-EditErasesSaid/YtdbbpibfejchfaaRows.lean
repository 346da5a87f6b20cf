/-
  No cell of these rows narrows 'for every input' (looked for: loops, veiled, ifaces, maps, wideKeys, modest, calm, conditions, laid).
  DERIVED. THE GIVEN ROWS OF THIS SEAT. 3 by the template 'for every input the law returns true; each argument reads behind the call as it read before'; 0 by the template 'total and deterministic' (their statements: YtdbbpibfejchfaaTotals.lean).
  GIVEN WITH THE SEED: the statements are not yours to turn. If you find one false, say at which input.
  Laid BY PROGRAM, IN A SANDBOX (cutbox-rows.mjs): the forced cells as the released guide's own fill.sh prints them over the translation 01fe9a947db49ef3… (all of the seat's roots in one cut). By AI agents, Wed Nov 11 2026. No macro, syntax, notation, axiom, sorry.
-/
import Derived.Test.YtdbbpibfejchfaaChecked
import GoSem.Claim
import GoSem.ClaimJoined
import GoSem.ClaimMapViews
import Derived.JoinedTies
import Derived.KernelRfl
namespace Go.Proofs.Ytdbbpibfejchfaa
/- THE CELL 'sum', in the pinned program and in every row, IS THE sha256 OF THE DUMP (.gsa) THAT YtdbbpibfejchfaaProg.lean LOADS. Nothing in Lean hashes anything: it is a label: what it is worth is what the hold of that sum in a sandbox is worth. -/
noncomputable def Try.pinned : Pinned := { name := "ytdbbpibfejchfaa", sum := "01fe9a947db49ef38075b78879755c83ebc8e1f993ff8af339d03da03e8690d1", checked := Try.checked }
namespace Rows
def none {H : Type} : Left H := { results := [], args := [] }

/-- 'filespacelaw19.EditFeeds': WHATEVER THE INPUT: true; the input reads as it did. -/
def editFeedsSpec : ChangeSpec := { name := "editFeeds", fn := fun _ => fun
  | [d1, d2, d3] => { results := [.lit (.bool true)], args := [d1, d2, d3] }
  | _ => none }
def editFeedsRow : OpenClaim := { program := "ytdbbpibfejchfaa", sum := "01fe9a947db49ef38075b78879755c83ebc8e1f993ff8af339d03da03e8690d1", func := "filespace/filespacelaw19.EditFeeds", spec := "editFeeds", inPlace := ["internal/abi.NoEscape", "internal/bytealg.MakeNoZero"], unfollowed := true, recurses := true, apart := false }
def EditFeedsSaid : Prop := editFeedsRow.holds Try.pinned (OpenSpec.ofChange editFeedsSpec)

/-- ITS FALSE NEIGHBOUR: 'it returns false'. Refute it at one input. -/
def editFeedsWrong : ChangeSpec := { name := "editFeeds", fn := fun _ => fun
  | [d1, d2, d3] => { results := [.lit (.bool false)], args := [d1, d2, d3] }
  | _ => none }
def EditFeedsWrongFalsely : Prop := editFeedsRow.holds Try.pinned (OpenSpec.ofChange editFeedsWrong)

/-- 'filespacelaw19.EditLines': WHATEVER THE INPUT: true; the input reads as it did. -/
def editLinesSpec : ChangeSpec := { name := "editLines", fn := fun _ => fun
  | [d] => { results := [.lit (.bool true)], args := [d] }
  | _ => none }
def editLinesRow : OpenClaim := { program := "ytdbbpibfejchfaa", sum := "01fe9a947db49ef38075b78879755c83ebc8e1f993ff8af339d03da03e8690d1", func := "filespace/filespacelaw19.EditLines", spec := "editLines", inPlace := ["internal/abi.NoEscape", "internal/bytealg.MakeNoZero"], unfollowed := true, recurses := true, apart := false }
def EditLinesSaid : Prop := editLinesRow.holds Try.pinned (OpenSpec.ofChange editLinesSpec)

/-- ITS FALSE NEIGHBOUR: 'it returns false'. Refute it at one input. -/
def editLinesWrong : ChangeSpec := { name := "editLines", fn := fun _ => fun
  | [d] => { results := [.lit (.bool false)], args := [d] }
  | _ => none }
def EditLinesWrongFalsely : Prop := editLinesRow.holds Try.pinned (OpenSpec.ofChange editLinesWrong)

/-- 'filespacelaw19.EditErases': WHATEVER THE INPUT: true; the input reads as it did. -/
def editErasesSpec : ChangeSpec := { name := "editErases", fn := fun _ => fun
  | [d1, d2] => { results := [.lit (.bool true)], args := [d1, d2] }
  | _ => none }
def editErasesRow : OpenClaim := { program := "ytdbbpibfejchfaa", sum := "01fe9a947db49ef38075b78879755c83ebc8e1f993ff8af339d03da03e8690d1", func := "filespace/filespacelaw19.EditErases", spec := "editErases", inPlace := ["internal/abi.NoEscape", "internal/bytealg.MakeNoZero"], unfollowed := true, recurses := true, apart := false }
def EditErasesSaid : Prop := editErasesRow.holds Try.pinned (OpenSpec.ofChange editErasesSpec)

/-- ITS FALSE NEIGHBOUR: 'it returns false'. Refute it at one input. -/
def editErasesWrong : ChangeSpec := { name := "editErases", fn := fun _ => fun
  | [d1, d2] => { results := [.lit (.bool false)], args := [d1, d2] }
  | _ => none }
def EditErasesWrongFalsely : Prop := editErasesRow.holds Try.pinned (OpenSpec.ofChange editErasesWrong)

/- THE SECOND FORM. 'bulk': how many values and letters a reading holds, each counted each time it is reached (what is shared counts as often as it is met; a slice's spare places count too). A statement '..UptoSaid' is the law's where the arguments, and the package variables that the reading takes, are together of bulk at most 1048576: NARROWER than '..Said'. Prove '..Said' where nothing that the law and all that it calls make is longer than what came in: it says more and counts as full. Else prove '..UptoSaid'. A law counts once. -/
mutual
def uptoBulk {H : Type} : DataW H → Nat
  | .lit (.string bytes) => bytes.length + 1
  | .lit _ => 1
  | .nil => 1
  | .ptr d => uptoBulk d + 1
  | .slice elems spare => uptoBulkAll elems + uptoBulkAll spare + 1
  | .agg parts => uptoBulkAll parts + 1
  | .iface _ d => uptoBulk d + 1
  | .map entries => uptoBulkEntries entries + 1
  | .held _ => 1
def uptoBulkAll {H : Type} : List (DataW H) → Nat
  | [] => 0
  | d :: r => uptoBulk d + uptoBulkAll r
def uptoBulkEntries {H : Type} : List (Lit × DataW H) → Nat
  | [] => 0
  | x :: r => uptoBulkEntry x + uptoBulkEntries r
def uptoBulkEntry {H : Type} : Lit × DataW H → Nat
  | (.string bytes, d) => bytes.length + uptoBulk d + 1
  | (_, d) => uptoBulk d + 1
 end
def uptoSmall : (H : Type) → List (DataW H) → Bool := fun _ ds => decide (uptoBulkAll ds ≤ 1048576)
def OpenSpec.upto (s : _root_.Go.ChangeSpec) : _root_.Go.OpenSpec := { _root_.Go.OpenSpec.ofChange s with cond := some uptoSmall }

/-- 'filespacelaw19.EditFeeds', WHERE WHAT IT READS IS OF BULK AT MOST 1048576: true; the input reads as it did. -/
def editFeedsUptoRow : OpenClaim := { program := "ytdbbpibfejchfaa", sum := "01fe9a947db49ef38075b78879755c83ebc8e1f993ff8af339d03da03e8690d1", func := "filespace/filespacelaw19.EditFeeds", spec := "editFeeds", inPlace := ["internal/abi.NoEscape", "internal/bytealg.MakeNoZero"], unfollowed := true, recurses := true, apart := false, narrowed := true }
def EditFeedsUptoSaid : Prop := editFeedsUptoRow.holds Try.pinned (OpenSpec.upto editFeedsSpec)

/-- 'filespacelaw19.EditLines', WHERE WHAT IT READS IS OF BULK AT MOST 1048576: true; the input reads as it did. -/
def editLinesUptoRow : OpenClaim := { program := "ytdbbpibfejchfaa", sum := "01fe9a947db49ef38075b78879755c83ebc8e1f993ff8af339d03da03e8690d1", func := "filespace/filespacelaw19.EditLines", spec := "editLines", inPlace := ["internal/abi.NoEscape", "internal/bytealg.MakeNoZero"], unfollowed := true, recurses := true, apart := false, narrowed := true }
def EditLinesUptoSaid : Prop := editLinesUptoRow.holds Try.pinned (OpenSpec.upto editLinesSpec)

/-- 'filespacelaw19.EditErases', WHERE WHAT IT READS IS OF BULK AT MOST 1048576: true; the input reads as it did. -/
def editErasesUptoRow : OpenClaim := { program := "ytdbbpibfejchfaa", sum := "01fe9a947db49ef38075b78879755c83ebc8e1f993ff8af339d03da03e8690d1", func := "filespace/filespacelaw19.EditErases", spec := "editErases", inPlace := ["internal/abi.NoEscape", "internal/bytealg.MakeNoZero"], unfollowed := true, recurses := true, apart := false, narrowed := true }
def EditErasesUptoSaid : Prop := editErasesUptoRow.holds Try.pinned (OpenSpec.upto editErasesSpec)

end Rows
end Go.Proofs.Ytdbbpibfejchfaa
