/-
  No cell of these rows narrows 'for every input' (looked for: loops, veiled, ifaces, maps, wideKeys, modest, calm, conditions, laid).
  DERIVED. THE GIVEN ROWS OF THIS SEAT. 8 by the template 'for every input the law returns true; each argument reads behind the call as it read before'; 0 by the template 'total and deterministic' (their statements: YtepehbbagbfmcaaTotals.lean).
  GIVEN WITH THE SEED: the statements are not yours to turn. If you find one false, say at which input.
  Laid BY PROGRAM, IN A SANDBOX (cutbox-rows.mjs): the forced cells as the released guide's own fill.sh prints them over the translation 411f74de1d95704d… (all of the seat's roots in one cut). By AI agents, Wed Nov 11 2026. No macro, syntax, notation, axiom, sorry.
-/
import Derived.Test.YtepehbbagbfmcaaChecked
import GoSem.Claim
import GoSem.ClaimJoined
import GoSem.ClaimMapViews
import Derived.JoinedTies
import Derived.KernelRfl
namespace Go.Proofs.Ytepehbbagbfmcaa
/- THE CELL 'sum', in the pinned program and in every row, IS THE sha256 OF THE DUMP (.gsa) THAT YtepehbbagbfmcaaProg.lean LOADS. Nothing in Lean hashes anything: it is a label: what it is worth is what the hold of that sum in a sandbox is worth. -/
noncomputable def Try.pinned : Pinned := { name := "ytepehbbagbfmcaa", sum := "411f74de1d95704dd2d8b0621558db15c47030cce7fe87da41f01d0b842b9829", checked := Try.checked }
namespace Rows
def none {H : Type} : Left H := { results := [], args := [] }

/-- 'filespacelaw10.TreeNews': WHATEVER THE INPUT: true; the input reads as it did. -/
def treeNewsSpec : ChangeSpec := { name := "treeNews", fn := fun _ => fun
  | [d1, d2, d3] => { results := [.lit (.bool true)], args := [d1, d2, d3] }
  | _ => none }
def treeNewsRow : OpenClaim := { program := "ytepehbbagbfmcaa", sum := "411f74de1d95704dd2d8b0621558db15c47030cce7fe87da41f01d0b842b9829", func := "filespace/filespacelaw10.TreeNews", spec := "treeNews", inPlace := ["internal/abi.NoEscape", "internal/bytealg.MakeNoZero"], unfollowed := true, recurses := true, plainKeys := false, apart := false }
def TreeNewsSaid : Prop := treeNewsRow.holds Try.pinned (OpenSpec.ofChange treeNewsSpec)

/-- ITS FALSE NEIGHBOUR: 'it returns false'. Refute it at one input. -/
def treeNewsWrong : ChangeSpec := { name := "treeNews", fn := fun _ => fun
  | [d1, d2, d3] => { results := [.lit (.bool false)], args := [d1, d2, d3] }
  | _ => none }
def TreeNewsWrongFalsely : Prop := treeNewsRow.holds Try.pinned (OpenSpec.ofChange treeNewsWrong)

/-- 'filespacelaw10.TreeRight': WHATEVER THE INPUT: true; the input reads as it did. -/
def treeRightSpec : ChangeSpec := { name := "treeRight", fn := fun _ => fun
  | [d] => { results := [.lit (.bool true)], args := [d] }
  | _ => none }
def treeRightRow : OpenClaim := { program := "ytepehbbagbfmcaa", sum := "411f74de1d95704dd2d8b0621558db15c47030cce7fe87da41f01d0b842b9829", func := "filespace/filespacelaw10.TreeRight", spec := "treeRight", inPlace := ["internal/abi.NoEscape", "internal/bytealg.MakeNoZero"], unfollowed := true, recurses := true, plainKeys := false, apart := false }
def TreeRightSaid : Prop := treeRightRow.holds Try.pinned (OpenSpec.ofChange treeRightSpec)

/-- ITS FALSE NEIGHBOUR: 'it returns false'. Refute it at one input. -/
def treeRightWrong : ChangeSpec := { name := "treeRight", fn := fun _ => fun
  | [d] => { results := [.lit (.bool false)], args := [d] }
  | _ => none }
def TreeRightWrongFalsely : Prop := treeRightRow.holds Try.pinned (OpenSpec.ofChange treeRightWrong)

/-- 'filespacelaw10.TreeReads': WHATEVER THE INPUT: true; the input reads as it did. -/
def treeReadsSpec : ChangeSpec := { name := "treeReads", fn := fun _ => fun
  | [d1, d2, d3] => { results := [.lit (.bool true)], args := [d1, d2, d3] }
  | _ => none }
def treeReadsRow : OpenClaim := { program := "ytepehbbagbfmcaa", sum := "411f74de1d95704dd2d8b0621558db15c47030cce7fe87da41f01d0b842b9829", func := "filespace/filespacelaw10.TreeReads", spec := "treeReads", inPlace := ["internal/abi.NoEscape", "internal/bytealg.MakeNoZero"], unfollowed := true, recurses := true, plainKeys := false, apart := false }
def TreeReadsSaid : Prop := treeReadsRow.holds Try.pinned (OpenSpec.ofChange treeReadsSpec)

/-- ITS FALSE NEIGHBOUR: 'it returns false'. Refute it at one input. -/
def treeReadsWrong : ChangeSpec := { name := "treeReads", fn := fun _ => fun
  | [d1, d2, d3] => { results := [.lit (.bool false)], args := [d1, d2, d3] }
  | _ => none }
def TreeReadsWrongFalsely : Prop := treeReadsRow.holds Try.pinned (OpenSpec.ofChange treeReadsWrong)

/-- 'filespacelaw10.TreeWrites': WHATEVER THE INPUT: true; the input reads as it did. -/
def treeWritesSpec : ChangeSpec := { name := "treeWrites", fn := fun _ => fun
  | [d1, d2] => { results := [.lit (.bool true)], args := [d1, d2] }
  | _ => none }
def treeWritesRow : OpenClaim := { program := "ytepehbbagbfmcaa", sum := "411f74de1d95704dd2d8b0621558db15c47030cce7fe87da41f01d0b842b9829", func := "filespace/filespacelaw10.TreeWrites", spec := "treeWrites", inPlace := ["internal/abi.NoEscape", "internal/bytealg.MakeNoZero"], unfollowed := true, recurses := true, plainKeys := false, apart := false }
def TreeWritesSaid : Prop := treeWritesRow.holds Try.pinned (OpenSpec.ofChange treeWritesSpec)

/-- ITS FALSE NEIGHBOUR: 'it returns false'. Refute it at one input. -/
def treeWritesWrong : ChangeSpec := { name := "treeWrites", fn := fun _ => fun
  | [d1, d2] => { results := [.lit (.bool false)], args := [d1, d2] }
  | _ => none }
def TreeWritesWrongFalsely : Prop := treeWritesRow.holds Try.pinned (OpenSpec.ofChange treeWritesWrong)

/-- 'filespacelaw10.TreeWalks': WHATEVER THE INPUT: true; the input reads as it did. -/
def treeWalksSpec : ChangeSpec := { name := "treeWalks", fn := fun _ => fun
  | [d1, d2] => { results := [.lit (.bool true)], args := [d1, d2] }
  | _ => none }
def treeWalksRow : OpenClaim := { program := "ytepehbbagbfmcaa", sum := "411f74de1d95704dd2d8b0621558db15c47030cce7fe87da41f01d0b842b9829", func := "filespace/filespacelaw10.TreeWalks", spec := "treeWalks", inPlace := ["internal/abi.NoEscape", "internal/bytealg.MakeNoZero"], unfollowed := true, recurses := true, plainKeys := false, apart := false }
def TreeWalksSaid : Prop := treeWalksRow.holds Try.pinned (OpenSpec.ofChange treeWalksSpec)

/-- ITS FALSE NEIGHBOUR: 'it returns false'. Refute it at one input. -/
def treeWalksWrong : ChangeSpec := { name := "treeWalks", fn := fun _ => fun
  | [d1, d2] => { results := [.lit (.bool false)], args := [d1, d2] }
  | _ => none }
def TreeWalksWrongFalsely : Prop := treeWalksRow.holds Try.pinned (OpenSpec.ofChange treeWalksWrong)

/-- 'filespacelaw10.TreeFinds': WHATEVER THE INPUT: true; the input reads as it did. -/
def treeFindsSpec : ChangeSpec := { name := "treeFinds", fn := fun _ => fun
  | [d1, d2, d3] => { results := [.lit (.bool true)], args := [d1, d2, d3] }
  | _ => none }
def treeFindsRow : OpenClaim := { program := "ytepehbbagbfmcaa", sum := "411f74de1d95704dd2d8b0621558db15c47030cce7fe87da41f01d0b842b9829", func := "filespace/filespacelaw10.TreeFinds", spec := "treeFinds", inPlace := ["internal/abi.NoEscape", "internal/bytealg.MakeNoZero"], unfollowed := true, recurses := true, plainKeys := false, apart := false }
def TreeFindsSaid : Prop := treeFindsRow.holds Try.pinned (OpenSpec.ofChange treeFindsSpec)

/-- ITS FALSE NEIGHBOUR: 'it returns false'. Refute it at one input. -/
def treeFindsWrong : ChangeSpec := { name := "treeFinds", fn := fun _ => fun
  | [d1, d2, d3] => { results := [.lit (.bool false)], args := [d1, d2, d3] }
  | _ => none }
def TreeFindsWrongFalsely : Prop := treeFindsRow.holds Try.pinned (OpenSpec.ofChange treeFindsWrong)

/-- 'filespacelaw10.TreeCalls': WHATEVER THE INPUT: true; the input reads as it did. -/
def treeCallsSpec : ChangeSpec := { name := "treeCalls", fn := fun _ => fun
  | [d1, d2] => { results := [.lit (.bool true)], args := [d1, d2] }
  | _ => none }
def treeCallsRow : OpenClaim := { program := "ytepehbbagbfmcaa", sum := "411f74de1d95704dd2d8b0621558db15c47030cce7fe87da41f01d0b842b9829", func := "filespace/filespacelaw10.TreeCalls", spec := "treeCalls", inPlace := ["internal/abi.NoEscape", "internal/bytealg.MakeNoZero"], unfollowed := true, recurses := true, plainKeys := false, apart := false }
def TreeCallsSaid : Prop := treeCallsRow.holds Try.pinned (OpenSpec.ofChange treeCallsSpec)

/-- ITS FALSE NEIGHBOUR: 'it returns false'. Refute it at one input. -/
def treeCallsWrong : ChangeSpec := { name := "treeCalls", fn := fun _ => fun
  | [d1, d2] => { results := [.lit (.bool false)], args := [d1, d2] }
  | _ => none }
def TreeCallsWrongFalsely : Prop := treeCallsRow.holds Try.pinned (OpenSpec.ofChange treeCallsWrong)

/-- 'filespacelaw10.TreeIds': WHATEVER THE INPUT: true; the input reads as it did. -/
def treeIdsSpec : ChangeSpec := { name := "treeIds", fn := fun _ => fun
  | [d1, d2] => { results := [.lit (.bool true)], args := [d1, d2] }
  | _ => none }
def treeIdsRow : OpenClaim := { program := "ytepehbbagbfmcaa", sum := "411f74de1d95704dd2d8b0621558db15c47030cce7fe87da41f01d0b842b9829", func := "filespace/filespacelaw10.TreeIds", spec := "treeIds", inPlace := ["internal/abi.NoEscape", "internal/bytealg.MakeNoZero"], unfollowed := true, recurses := true, plainKeys := false, apart := false }
def TreeIdsSaid : Prop := treeIdsRow.holds Try.pinned (OpenSpec.ofChange treeIdsSpec)

/-- ITS FALSE NEIGHBOUR: 'it returns false'. Refute it at one input. -/
def treeIdsWrong : ChangeSpec := { name := "treeIds", fn := fun _ => fun
  | [d1, d2] => { results := [.lit (.bool false)], args := [d1, d2] }
  | _ => none }
def TreeIdsWrongFalsely : Prop := treeIdsRow.holds Try.pinned (OpenSpec.ofChange treeIdsWrong)

/- THE SECOND FORM. 'bulk': how many values and letters a reading holds, each counted each time it is reached (what is shared counts as often as it is met; a slice's spare places count too). A statement '..UptoSaid' is the law's where the arguments, and the package variables that the reading takes, are together of bulk at most 1048576: NARROWER than '..Said'. Prove '..Said' where nothing that the law and all that it calls make is longer than what came in: it says more and counts as full. Else prove '..UptoSaid'. A law counts once. -/
mutual
def uptoBulk {H : Type} : DataW H → Nat
  | .lit (.string bytes) => bytes.length + 1
  | .lit _ => 1
  | .nil => 1
  | .ptr d => uptoBulk d + 1
  | .slice elems spare => uptoBulkAll elems + uptoBulkAll spare + 1
  | .agg parts => uptoBulkAll parts + 1
  | .iface _ d => uptoBulk d + 1
  | .map entries => uptoBulkEntries entries + 1
  | .held _ => 1
def uptoBulkAll {H : Type} : List (DataW H) → Nat
  | [] => 0
  | d :: r => uptoBulk d + uptoBulkAll r
def uptoBulkEntries {H : Type} : List (Lit × DataW H) → Nat
  | [] => 0
  | x :: r => uptoBulkEntry x + uptoBulkEntries r
def uptoBulkEntry {H : Type} : Lit × DataW H → Nat
  | (.string bytes, d) => bytes.length + uptoBulk d + 1
  | (_, d) => uptoBulk d + 1
 end
def uptoSmall : (H : Type) → List (DataW H) → Bool := fun _ ds => decide (uptoBulkAll ds ≤ 1048576)
def OpenSpec.upto (s : _root_.Go.ChangeSpec) : _root_.Go.OpenSpec := { _root_.Go.OpenSpec.ofChange s with cond := some uptoSmall }

/-- 'filespacelaw10.TreeNews', WHERE WHAT IT READS IS OF BULK AT MOST 1048576: true; the input reads as it did. -/
def treeNewsUptoRow : OpenClaim := { program := "ytepehbbagbfmcaa", sum := "411f74de1d95704dd2d8b0621558db15c47030cce7fe87da41f01d0b842b9829", func := "filespace/filespacelaw10.TreeNews", spec := "treeNews", inPlace := ["internal/abi.NoEscape", "internal/bytealg.MakeNoZero"], unfollowed := true, recurses := true, plainKeys := false, apart := false, narrowed := true }
def TreeNewsUptoSaid : Prop := treeNewsUptoRow.holds Try.pinned (OpenSpec.upto treeNewsSpec)

/-- 'filespacelaw10.TreeRight', WHERE WHAT IT READS IS OF BULK AT MOST 1048576: true; the input reads as it did. -/
def treeRightUptoRow : OpenClaim := { program := "ytepehbbagbfmcaa", sum := "411f74de1d95704dd2d8b0621558db15c47030cce7fe87da41f01d0b842b9829", func := "filespace/filespacelaw10.TreeRight", spec := "treeRight", inPlace := ["internal/abi.NoEscape", "internal/bytealg.MakeNoZero"], unfollowed := true, recurses := true, plainKeys := false, apart := false, narrowed := true }
def TreeRightUptoSaid : Prop := treeRightUptoRow.holds Try.pinned (OpenSpec.upto treeRightSpec)

/-- 'filespacelaw10.TreeReads', WHERE WHAT IT READS IS OF BULK AT MOST 1048576: true; the input reads as it did. -/
def treeReadsUptoRow : OpenClaim := { program := "ytepehbbagbfmcaa", sum := "411f74de1d95704dd2d8b0621558db15c47030cce7fe87da41f01d0b842b9829", func := "filespace/filespacelaw10.TreeReads", spec := "treeReads", inPlace := ["internal/abi.NoEscape", "internal/bytealg.MakeNoZero"], unfollowed := true, recurses := true, plainKeys := false, apart := false, narrowed := true }
def TreeReadsUptoSaid : Prop := treeReadsUptoRow.holds Try.pinned (OpenSpec.upto treeReadsSpec)

/-- 'filespacelaw10.TreeWrites', WHERE WHAT IT READS IS OF BULK AT MOST 1048576: true; the input reads as it did. -/
def treeWritesUptoRow : OpenClaim := { program := "ytepehbbagbfmcaa", sum := "411f74de1d95704dd2d8b0621558db15c47030cce7fe87da41f01d0b842b9829", func := "filespace/filespacelaw10.TreeWrites", spec := "treeWrites", inPlace := ["internal/abi.NoEscape", "internal/bytealg.MakeNoZero"], unfollowed := true, recurses := true, plainKeys := false, apart := false, narrowed := true }
def TreeWritesUptoSaid : Prop := treeWritesUptoRow.holds Try.pinned (OpenSpec.upto treeWritesSpec)

/-- 'filespacelaw10.TreeWalks', WHERE WHAT IT READS IS OF BULK AT MOST 1048576: true; the input reads as it did. -/
def treeWalksUptoRow : OpenClaim := { program := "ytepehbbagbfmcaa", sum := "411f74de1d95704dd2d8b0621558db15c47030cce7fe87da41f01d0b842b9829", func := "filespace/filespacelaw10.TreeWalks", spec := "treeWalks", inPlace := ["internal/abi.NoEscape", "internal/bytealg.MakeNoZero"], unfollowed := true, recurses := true, plainKeys := false, apart := false, narrowed := true }
def TreeWalksUptoSaid : Prop := treeWalksUptoRow.holds Try.pinned (OpenSpec.upto treeWalksSpec)

/-- 'filespacelaw10.TreeFinds', WHERE WHAT IT READS IS OF BULK AT MOST 1048576: true; the input reads as it did. -/
def treeFindsUptoRow : OpenClaim := { program := "ytepehbbagbfmcaa", sum := "411f74de1d95704dd2d8b0621558db15c47030cce7fe87da41f01d0b842b9829", func := "filespace/filespacelaw10.TreeFinds", spec := "treeFinds", inPlace := ["internal/abi.NoEscape", "internal/bytealg.MakeNoZero"], unfollowed := true, recurses := true, plainKeys := false, apart := false, narrowed := true }
def TreeFindsUptoSaid : Prop := treeFindsUptoRow.holds Try.pinned (OpenSpec.upto treeFindsSpec)

/-- 'filespacelaw10.TreeCalls', WHERE WHAT IT READS IS OF BULK AT MOST 1048576: true; the input reads as it did. -/
def treeCallsUptoRow : OpenClaim := { program := "ytepehbbagbfmcaa", sum := "411f74de1d95704dd2d8b0621558db15c47030cce7fe87da41f01d0b842b9829", func := "filespace/filespacelaw10.TreeCalls", spec := "treeCalls", inPlace := ["internal/abi.NoEscape", "internal/bytealg.MakeNoZero"], unfollowed := true, recurses := true, plainKeys := false, apart := false, narrowed := true }
def TreeCallsUptoSaid : Prop := treeCallsUptoRow.holds Try.pinned (OpenSpec.upto treeCallsSpec)

/-- 'filespacelaw10.TreeIds', WHERE WHAT IT READS IS OF BULK AT MOST 1048576: true; the input reads as it did. -/
def treeIdsUptoRow : OpenClaim := { program := "ytepehbbagbfmcaa", sum := "411f74de1d95704dd2d8b0621558db15c47030cce7fe87da41f01d0b842b9829", func := "filespace/filespacelaw10.TreeIds", spec := "treeIds", inPlace := ["internal/abi.NoEscape", "internal/bytealg.MakeNoZero"], unfollowed := true, recurses := true, plainKeys := false, apart := false, narrowed := true }
def TreeIdsUptoSaid : Prop := treeIdsUptoRow.holds Try.pinned (OpenSpec.upto treeIdsSpec)

end Rows
end Go.Proofs.Ytepehbbagbfmcaa
