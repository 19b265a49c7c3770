/-
  NARROWER THAN 'FOR EVERY INPUT', by the rows' own cells (each row's printed sentence says how): FnExactSystemSame: loops.
  DERIVED. THE GIVEN ROWS OF THIS SEAT. 12 by the template 'for every input the law returns true; each argument reads behind the call as it read before'; 0 by the template 'total and deterministic' (their statements: YtlhchhmfbimnhaaTotals.lean).
  GIVEN WITH THE SEED: the statements are not yours to turn. If you find one false, say at which input.
  Laid BY PROGRAM, IN A SANDBOX (cutbox-rows.mjs): the forced cells as the released guide's own fill.sh prints them over the translation a6ca6757ca5c6f61… (all of the seat's roots in one cut). By AI agents, Wed Nov 11 2026. No macro, syntax, notation, axiom, sorry.
-/
import Derived.Test.YtlhchhmfbimnhaaChecked
import GoSem.Claim
import GoSem.ClaimJoined
import GoSem.ClaimMapViews
import Derived.JoinedTies
import Derived.KernelRfl
namespace Go.Proofs.Ytlhchhmfbimnhaa
/- THE CELL 'sum', in the pinned program and in every row, IS THE sha256 OF THE DUMP (.gsa) THAT YtlhchhmfbimnhaaProg.lean LOADS. Nothing in Lean hashes anything: it is a label: what it is worth is what the hold of that sum in a sandbox is worth. -/
noncomputable def Try.pinned : Pinned := { name := "ytlhchhmfbimnhaa", sum := "a6ca6757ca5c6f61cfbe5a87484f2b03e9220364f361ecf9bf0e0b837a3c0fc6", checked := Try.checked }
namespace Rows
def none {H : Type} : Left H := { results := [], args := [] }

/-- 'laws.FnExactGraphSame': WHATEVER THE INPUT: true; the input reads as it did. -/
def fnExactGraphSameSpec : ChangeSpec := { name := "fnExactGraphSame", fn := fun _ => fun
  | [d1, d2] => { results := [.lit (.bool true)], args := [d1, d2] }
  | _ => none }
def fnExactGraphSameRow : OpenClaim := { program := "ytlhchhmfbimnhaa", sum := "a6ca6757ca5c6f61cfbe5a87484f2b03e9220364f361ecf9bf0e0b837a3c0fc6", func := "loop.example/ltlcheck/laws.FnExactGraphSame", spec := "fnExactGraphSame", unfollowed := true, recurses := true, apart := false }
def FnExactGraphSameSaid : Prop := fnExactGraphSameRow.holds Try.pinned (OpenSpec.ofChange fnExactGraphSameSpec)

/-- ITS FALSE NEIGHBOUR: 'it returns false'. Refute it at one input. -/
def fnExactGraphSameWrong : ChangeSpec := { name := "fnExactGraphSame", fn := fun _ => fun
  | [d1, d2] => { results := [.lit (.bool false)], args := [d1, d2] }
  | _ => none }
def FnExactGraphSameWrongFalsely : Prop := fnExactGraphSameRow.holds Try.pinned (OpenSpec.ofChange fnExactGraphSameWrong)

/-- 'laws.FnExactGraphValid': WHATEVER THE INPUT: true; the input reads as it did. -/
def fnExactGraphValidSpec : ChangeSpec := { name := "fnExactGraphValid", fn := fun _ => fun
  | [d] => { results := [.lit (.bool true)], args := [d] }
  | _ => none }
def fnExactGraphValidRow : OpenClaim := { program := "ytlhchhmfbimnhaa", sum := "a6ca6757ca5c6f61cfbe5a87484f2b03e9220364f361ecf9bf0e0b837a3c0fc6", func := "loop.example/ltlcheck/laws.FnExactGraphValid", spec := "fnExactGraphValid", unfollowed := true, recurses := true, apart := false }
def FnExactGraphValidSaid : Prop := fnExactGraphValidRow.holds Try.pinned (OpenSpec.ofChange fnExactGraphValidSpec)

/-- ITS FALSE NEIGHBOUR: 'it returns false'. Refute it at one input. -/
def fnExactGraphValidWrong : ChangeSpec := { name := "fnExactGraphValid", fn := fun _ => fun
  | [d] => { results := [.lit (.bool false)], args := [d] }
  | _ => none }
def FnExactGraphValidWrongFalsely : Prop := fnExactGraphValidRow.holds Try.pinned (OpenSpec.ofChange fnExactGraphValidWrong)

/-- 'laws.FnExactPathValid': WHATEVER THE INPUT: true; the input reads as it did. -/
def fnExactPathValidSpec : ChangeSpec := { name := "fnExactPathValid", fn := fun _ => fun
  | [d1, d2] => { results := [.lit (.bool true)], args := [d1, d2] }
  | _ => none }
def fnExactPathValidRow : OpenClaim := { program := "ytlhchhmfbimnhaa", sum := "a6ca6757ca5c6f61cfbe5a87484f2b03e9220364f361ecf9bf0e0b837a3c0fc6", func := "loop.example/ltlcheck/laws.FnExactPathValid", spec := "fnExactPathValid", unfollowed := true, recurses := true, apart := false }
def FnExactPathValidSaid : Prop := fnExactPathValidRow.holds Try.pinned (OpenSpec.ofChange fnExactPathValidSpec)

/-- ITS FALSE NEIGHBOUR: 'it returns false'. Refute it at one input. -/
def fnExactPathValidWrong : ChangeSpec := { name := "fnExactPathValid", fn := fun _ => fun
  | [d1, d2] => { results := [.lit (.bool false)], args := [d1, d2] }
  | _ => none }
def FnExactPathValidWrongFalsely : Prop := fnExactPathValidRow.holds Try.pinned (OpenSpec.ofChange fnExactPathValidWrong)

/-- 'laws.FnExactBlocksValid': WHATEVER THE INPUT: true; the input reads as it did. -/
def fnExactBlocksValidSpec : ChangeSpec := { name := "fnExactBlocksValid", fn := fun _ => fun
  | [d1, d2] => { results := [.lit (.bool true)], args := [d1, d2] }
  | _ => none }
def fnExactBlocksValidRow : OpenClaim := { program := "ytlhchhmfbimnhaa", sum := "a6ca6757ca5c6f61cfbe5a87484f2b03e9220364f361ecf9bf0e0b837a3c0fc6", func := "loop.example/ltlcheck/laws.FnExactBlocksValid", spec := "fnExactBlocksValid", unfollowed := true, recurses := true, apart := false }
def FnExactBlocksValidSaid : Prop := fnExactBlocksValidRow.holds Try.pinned (OpenSpec.ofChange fnExactBlocksValidSpec)

/-- ITS FALSE NEIGHBOUR: 'it returns false'. Refute it at one input. -/
def fnExactBlocksValidWrong : ChangeSpec := { name := "fnExactBlocksValid", fn := fun _ => fun
  | [d1, d2] => { results := [.lit (.bool false)], args := [d1, d2] }
  | _ => none }
def FnExactBlocksValidWrongFalsely : Prop := fnExactBlocksValidRow.holds Try.pinned (OpenSpec.ofChange fnExactBlocksValidWrong)

/-- 'laws.FnExactTraceValid': WHATEVER THE INPUT: true; the input reads as it did. -/
def fnExactTraceValidSpec : ChangeSpec := { name := "fnExactTraceValid", fn := fun _ => fun
  | [d1, d2] => { results := [.lit (.bool true)], args := [d1, d2] }
  | _ => none }
def fnExactTraceValidRow : OpenClaim := { program := "ytlhchhmfbimnhaa", sum := "a6ca6757ca5c6f61cfbe5a87484f2b03e9220364f361ecf9bf0e0b837a3c0fc6", func := "loop.example/ltlcheck/laws.FnExactTraceValid", spec := "fnExactTraceValid", unfollowed := true, recurses := true, apart := false }
def FnExactTraceValidSaid : Prop := fnExactTraceValidRow.holds Try.pinned (OpenSpec.ofChange fnExactTraceValidSpec)

/-- ITS FALSE NEIGHBOUR: 'it returns false'. Refute it at one input. -/
def fnExactTraceValidWrong : ChangeSpec := { name := "fnExactTraceValid", fn := fun _ => fun
  | [d1, d2] => { results := [.lit (.bool false)], args := [d1, d2] }
  | _ => none }
def FnExactTraceValidWrongFalsely : Prop := fnExactTraceValidRow.holds Try.pinned (OpenSpec.ofChange fnExactTraceValidWrong)

/-- 'laws.FnExactSystemSame': WHATEVER THE INPUT: true; the input reads as it did. -/
def fnExactSystemSameSpec : ChangeSpec := { name := "fnExactSystemSame", fn := fun _ => fun
  | [d1, d2] => { results := [.lit (.bool true)], args := [d1, d2] }
  | _ => none }
def fnExactSystemSameRow : OpenClaim := { program := "ytlhchhmfbimnhaa", sum := "a6ca6757ca5c6f61cfbe5a87484f2b03e9220364f361ecf9bf0e0b837a3c0fc6", func := "loop.example/ltlcheck/laws.FnExactSystemSame", spec := "fnExactSystemSame", unfollowed := true, recurses := true, loops := true, apart := false }
def FnExactSystemSameSaid : Prop := fnExactSystemSameRow.holds Try.pinned (OpenSpec.ofChange fnExactSystemSameSpec)

/-- ITS FALSE NEIGHBOUR: 'it returns false'. Refute it at one input. -/
def fnExactSystemSameWrong : ChangeSpec := { name := "fnExactSystemSame", fn := fun _ => fun
  | [d1, d2] => { results := [.lit (.bool false)], args := [d1, d2] }
  | _ => none }
def FnExactSystemSameWrongFalsely : Prop := fnExactSystemSameRow.holds Try.pinned (OpenSpec.ofChange fnExactSystemSameWrong)

/-- 'laws.FnExactShortestPath': WHATEVER THE INPUT: true; the input reads as it did. -/
def fnExactShortestPathSpec : ChangeSpec := { name := "fnExactShortestPath", fn := fun _ => fun
  | [d1, d2, d3] => { results := [.lit (.bool true)], args := [d1, d2, d3] }
  | _ => none }
def fnExactShortestPathRow : OpenClaim := { program := "ytlhchhmfbimnhaa", sum := "a6ca6757ca5c6f61cfbe5a87484f2b03e9220364f361ecf9bf0e0b837a3c0fc6", func := "loop.example/ltlcheck/laws.FnExactShortestPath", spec := "fnExactShortestPath", unfollowed := true, recurses := true, apart := false }
def FnExactShortestPathSaid : Prop := fnExactShortestPathRow.holds Try.pinned (OpenSpec.ofChange fnExactShortestPathSpec)

/-- ITS FALSE NEIGHBOUR: 'it returns false'. Refute it at one input. -/
def fnExactShortestPathWrong : ChangeSpec := { name := "fnExactShortestPath", fn := fun _ => fun
  | [d1, d2, d3] => { results := [.lit (.bool false)], args := [d1, d2, d3] }
  | _ => none }
def FnExactShortestPathWrongFalsely : Prop := fnExactShortestPathRow.holds Try.pinned (OpenSpec.ofChange fnExactShortestPathWrong)

/-- 'laws.FnExactComponents': WHATEVER THE INPUT: true; the input reads as it did. -/
def fnExactComponentsSpec : ChangeSpec := { name := "fnExactComponents", fn := fun _ => fun
  | [d] => { results := [.lit (.bool true)], args := [d] }
  | _ => none }
def fnExactComponentsRow : OpenClaim := { program := "ytlhchhmfbimnhaa", sum := "a6ca6757ca5c6f61cfbe5a87484f2b03e9220364f361ecf9bf0e0b837a3c0fc6", func := "loop.example/ltlcheck/laws.FnExactComponents", spec := "fnExactComponents", unfollowed := true, recurses := true, apart := false }
def FnExactComponentsSaid : Prop := fnExactComponentsRow.holds Try.pinned (OpenSpec.ofChange fnExactComponentsSpec)

/-- ITS FALSE NEIGHBOUR: 'it returns false'. Refute it at one input. -/
def fnExactComponentsWrong : ChangeSpec := { name := "fnExactComponents", fn := fun _ => fun
  | [d] => { results := [.lit (.bool false)], args := [d] }
  | _ => none }
def FnExactComponentsWrongFalsely : Prop := fnExactComponentsRow.holds Try.pinned (OpenSpec.ofChange fnExactComponentsWrong)

/-- 'laws.FnExactQuotientGraph': WHATEVER THE INPUT: true; the input reads as it did. -/
def fnExactQuotientGraphSpec : ChangeSpec := { name := "fnExactQuotientGraph", fn := fun _ => fun
  | [d1, d2] => { results := [.lit (.bool true)], args := [d1, d2] }
  | _ => none }
def fnExactQuotientGraphRow : OpenClaim := { program := "ytlhchhmfbimnhaa", sum := "a6ca6757ca5c6f61cfbe5a87484f2b03e9220364f361ecf9bf0e0b837a3c0fc6", func := "loop.example/ltlcheck/laws.FnExactQuotientGraph", spec := "fnExactQuotientGraph", unfollowed := true, recurses := true, apart := false }
def FnExactQuotientGraphSaid : Prop := fnExactQuotientGraphRow.holds Try.pinned (OpenSpec.ofChange fnExactQuotientGraphSpec)

/-- ITS FALSE NEIGHBOUR: 'it returns false'. Refute it at one input. -/
def fnExactQuotientGraphWrong : ChangeSpec := { name := "fnExactQuotientGraph", fn := fun _ => fun
  | [d1, d2] => { results := [.lit (.bool false)], args := [d1, d2] }
  | _ => none }
def FnExactQuotientGraphWrongFalsely : Prop := fnExactQuotientGraphRow.holds Try.pinned (OpenSpec.ofChange fnExactQuotientGraphWrong)

/-- 'laws.FnExactQuotientTrace': WHATEVER THE INPUT: true; the input reads as it did. -/
def fnExactQuotientTraceSpec : ChangeSpec := { name := "fnExactQuotientTrace", fn := fun _ => fun
  | [d1, d2, d3] => { results := [.lit (.bool true)], args := [d1, d2, d3] }
  | _ => none }
def fnExactQuotientTraceRow : OpenClaim := { program := "ytlhchhmfbimnhaa", sum := "a6ca6757ca5c6f61cfbe5a87484f2b03e9220364f361ecf9bf0e0b837a3c0fc6", func := "loop.example/ltlcheck/laws.FnExactQuotientTrace", spec := "fnExactQuotientTrace", unfollowed := true, recurses := true, apart := false }
def FnExactQuotientTraceSaid : Prop := fnExactQuotientTraceRow.holds Try.pinned (OpenSpec.ofChange fnExactQuotientTraceSpec)

/-- ITS FALSE NEIGHBOUR: 'it returns false'. Refute it at one input. -/
def fnExactQuotientTraceWrong : ChangeSpec := { name := "fnExactQuotientTrace", fn := fun _ => fun
  | [d1, d2, d3] => { results := [.lit (.bool false)], args := [d1, d2, d3] }
  | _ => none }
def FnExactQuotientTraceWrongFalsely : Prop := fnExactQuotientTraceRow.holds Try.pinned (OpenSpec.ofChange fnExactQuotientTraceWrong)

/-- 'laws.FnGraphSame': WHATEVER THE INPUT: true; the input reads as it did. -/
def fnGraphSameSpec : ChangeSpec := { name := "fnGraphSame", fn := fun _ => fun
  | [d] => { results := [.lit (.bool true)], args := [d] }
  | _ => none }
def fnGraphSameRow : OpenClaim := { program := "ytlhchhmfbimnhaa", sum := "a6ca6757ca5c6f61cfbe5a87484f2b03e9220364f361ecf9bf0e0b837a3c0fc6", func := "loop.example/ltlcheck/laws.FnGraphSame", spec := "fnGraphSame", unfollowed := true, recurses := true, apart := false }
def FnGraphSameSaid : Prop := fnGraphSameRow.holds Try.pinned (OpenSpec.ofChange fnGraphSameSpec)

/-- ITS FALSE NEIGHBOUR: 'it returns false'. Refute it at one input. -/
def fnGraphSameWrong : ChangeSpec := { name := "fnGraphSame", fn := fun _ => fun
  | [d] => { results := [.lit (.bool false)], args := [d] }
  | _ => none }
def FnGraphSameWrongFalsely : Prop := fnGraphSameRow.holds Try.pinned (OpenSpec.ofChange fnGraphSameWrong)

/-- 'laws.FnExactRefineBlocks': WHATEVER THE INPUT: true; the input reads as it did. -/
def fnExactRefineBlocksSpec : ChangeSpec := { name := "fnExactRefineBlocks", fn := fun _ => fun
  | [d1, d2] => { results := [.lit (.bool true)], args := [d1, d2] }
  | _ => none }
def fnExactRefineBlocksRow : OpenClaim := { program := "ytlhchhmfbimnhaa", sum := "a6ca6757ca5c6f61cfbe5a87484f2b03e9220364f361ecf9bf0e0b837a3c0fc6", func := "loop.example/ltlcheck/laws.FnExactRefineBlocks", spec := "fnExactRefineBlocks", unfollowed := true, recurses := true, apart := false }
def FnExactRefineBlocksSaid : Prop := fnExactRefineBlocksRow.holds Try.pinned (OpenSpec.ofChange fnExactRefineBlocksSpec)

/-- ITS FALSE NEIGHBOUR: 'it returns false'. Refute it at one input. -/
def fnExactRefineBlocksWrong : ChangeSpec := { name := "fnExactRefineBlocks", fn := fun _ => fun
  | [d1, d2] => { results := [.lit (.bool false)], args := [d1, d2] }
  | _ => none }
def FnExactRefineBlocksWrongFalsely : Prop := fnExactRefineBlocksRow.holds Try.pinned (OpenSpec.ofChange fnExactRefineBlocksWrong)

/- THE SECOND FORM. 'bulk': how many values and letters a reading holds, each counted each time it is reached (what is shared counts as often as it is met; a slice's spare places count too). A statement '..UptoSaid' is the law's where the arguments, and the package variables that the reading takes, are together of bulk at most 1048576: NARROWER than '..Said'. Prove '..Said' where nothing that the law and all that it calls make is longer than what came in: it says more and counts as full. Else prove '..UptoSaid'. A law counts once. -/
mutual
def uptoBulk {H : Type} : DataW H → Nat
  | .lit (.string bytes) => bytes.length + 1
  | .lit _ => 1
  | .nil => 1
  | .ptr d => uptoBulk d + 1
  | .slice elems spare => uptoBulkAll elems + uptoBulkAll spare + 1
  | .agg parts => uptoBulkAll parts + 1
  | .iface _ d => uptoBulk d + 1
  | .map entries => uptoBulkEntries entries + 1
  | .held _ => 1
def uptoBulkAll {H : Type} : List (DataW H) → Nat
  | [] => 0
  | d :: r => uptoBulk d + uptoBulkAll r
def uptoBulkEntries {H : Type} : List (Lit × DataW H) → Nat
  | [] => 0
  | x :: r => uptoBulkEntry x + uptoBulkEntries r
def uptoBulkEntry {H : Type} : Lit × DataW H → Nat
  | (.string bytes, d) => bytes.length + uptoBulk d + 1
  | (_, d) => uptoBulk d + 1
 end
def uptoSmall : (H : Type) → List (DataW H) → Bool := fun _ ds => decide (uptoBulkAll ds ≤ 1048576)
def OpenSpec.upto (s : _root_.Go.ChangeSpec) : _root_.Go.OpenSpec := { _root_.Go.OpenSpec.ofChange s with cond := some uptoSmall }

/-- 'laws.FnExactGraphSame', WHERE WHAT IT READS IS OF BULK AT MOST 1048576: true; the input reads as it did. -/
def fnExactGraphSameUptoRow : OpenClaim := { program := "ytlhchhmfbimnhaa", sum := "a6ca6757ca5c6f61cfbe5a87484f2b03e9220364f361ecf9bf0e0b837a3c0fc6", func := "loop.example/ltlcheck/laws.FnExactGraphSame", spec := "fnExactGraphSame", unfollowed := true, recurses := true, apart := false, narrowed := true }
def FnExactGraphSameUptoSaid : Prop := fnExactGraphSameUptoRow.holds Try.pinned (OpenSpec.upto fnExactGraphSameSpec)

/-- 'laws.FnExactGraphValid', WHERE WHAT IT READS IS OF BULK AT MOST 1048576: true; the input reads as it did. -/
def fnExactGraphValidUptoRow : OpenClaim := { program := "ytlhchhmfbimnhaa", sum := "a6ca6757ca5c6f61cfbe5a87484f2b03e9220364f361ecf9bf0e0b837a3c0fc6", func := "loop.example/ltlcheck/laws.FnExactGraphValid", spec := "fnExactGraphValid", unfollowed := true, recurses := true, apart := false, narrowed := true }
def FnExactGraphValidUptoSaid : Prop := fnExactGraphValidUptoRow.holds Try.pinned (OpenSpec.upto fnExactGraphValidSpec)

/-- 'laws.FnExactPathValid', WHERE WHAT IT READS IS OF BULK AT MOST 1048576: true; the input reads as it did. -/
def fnExactPathValidUptoRow : OpenClaim := { program := "ytlhchhmfbimnhaa", sum := "a6ca6757ca5c6f61cfbe5a87484f2b03e9220364f361ecf9bf0e0b837a3c0fc6", func := "loop.example/ltlcheck/laws.FnExactPathValid", spec := "fnExactPathValid", unfollowed := true, recurses := true, apart := false, narrowed := true }
def FnExactPathValidUptoSaid : Prop := fnExactPathValidUptoRow.holds Try.pinned (OpenSpec.upto fnExactPathValidSpec)

/-- 'laws.FnExactBlocksValid', WHERE WHAT IT READS IS OF BULK AT MOST 1048576: true; the input reads as it did. -/
def fnExactBlocksValidUptoRow : OpenClaim := { program := "ytlhchhmfbimnhaa", sum := "a6ca6757ca5c6f61cfbe5a87484f2b03e9220364f361ecf9bf0e0b837a3c0fc6", func := "loop.example/ltlcheck/laws.FnExactBlocksValid", spec := "fnExactBlocksValid", unfollowed := true, recurses := true, apart := false, narrowed := true }
def FnExactBlocksValidUptoSaid : Prop := fnExactBlocksValidUptoRow.holds Try.pinned (OpenSpec.upto fnExactBlocksValidSpec)

/-- 'laws.FnExactTraceValid', WHERE WHAT IT READS IS OF BULK AT MOST 1048576: true; the input reads as it did. -/
def fnExactTraceValidUptoRow : OpenClaim := { program := "ytlhchhmfbimnhaa", sum := "a6ca6757ca5c6f61cfbe5a87484f2b03e9220364f361ecf9bf0e0b837a3c0fc6", func := "loop.example/ltlcheck/laws.FnExactTraceValid", spec := "fnExactTraceValid", unfollowed := true, recurses := true, apart := false, narrowed := true }
def FnExactTraceValidUptoSaid : Prop := fnExactTraceValidUptoRow.holds Try.pinned (OpenSpec.upto fnExactTraceValidSpec)

/-- 'laws.FnExactSystemSame', WHERE WHAT IT READS IS OF BULK AT MOST 1048576: true; the input reads as it did. -/
def fnExactSystemSameUptoRow : OpenClaim := { program := "ytlhchhmfbimnhaa", sum := "a6ca6757ca5c6f61cfbe5a87484f2b03e9220364f361ecf9bf0e0b837a3c0fc6", func := "loop.example/ltlcheck/laws.FnExactSystemSame", spec := "fnExactSystemSame", unfollowed := true, recurses := true, loops := true, apart := false, narrowed := true }
def FnExactSystemSameUptoSaid : Prop := fnExactSystemSameUptoRow.holds Try.pinned (OpenSpec.upto fnExactSystemSameSpec)

/-- 'laws.FnExactShortestPath', WHERE WHAT IT READS IS OF BULK AT MOST 1048576: true; the input reads as it did. -/
def fnExactShortestPathUptoRow : OpenClaim := { program := "ytlhchhmfbimnhaa", sum := "a6ca6757ca5c6f61cfbe5a87484f2b03e9220364f361ecf9bf0e0b837a3c0fc6", func := "loop.example/ltlcheck/laws.FnExactShortestPath", spec := "fnExactShortestPath", unfollowed := true, recurses := true, apart := false, narrowed := true }
def FnExactShortestPathUptoSaid : Prop := fnExactShortestPathUptoRow.holds Try.pinned (OpenSpec.upto fnExactShortestPathSpec)

/-- 'laws.FnExactComponents', WHERE WHAT IT READS IS OF BULK AT MOST 1048576: true; the input reads as it did. -/
def fnExactComponentsUptoRow : OpenClaim := { program := "ytlhchhmfbimnhaa", sum := "a6ca6757ca5c6f61cfbe5a87484f2b03e9220364f361ecf9bf0e0b837a3c0fc6", func := "loop.example/ltlcheck/laws.FnExactComponents", spec := "fnExactComponents", unfollowed := true, recurses := true, apart := false, narrowed := true }
def FnExactComponentsUptoSaid : Prop := fnExactComponentsUptoRow.holds Try.pinned (OpenSpec.upto fnExactComponentsSpec)

/-- 'laws.FnExactQuotientGraph', WHERE WHAT IT READS IS OF BULK AT MOST 1048576: true; the input reads as it did. -/
def fnExactQuotientGraphUptoRow : OpenClaim := { program := "ytlhchhmfbimnhaa", sum := "a6ca6757ca5c6f61cfbe5a87484f2b03e9220364f361ecf9bf0e0b837a3c0fc6", func := "loop.example/ltlcheck/laws.FnExactQuotientGraph", spec := "fnExactQuotientGraph", unfollowed := true, recurses := true, apart := false, narrowed := true }
def FnExactQuotientGraphUptoSaid : Prop := fnExactQuotientGraphUptoRow.holds Try.pinned (OpenSpec.upto fnExactQuotientGraphSpec)

/-- 'laws.FnExactQuotientTrace', WHERE WHAT IT READS IS OF BULK AT MOST 1048576: true; the input reads as it did. -/
def fnExactQuotientTraceUptoRow : OpenClaim := { program := "ytlhchhmfbimnhaa", sum := "a6ca6757ca5c6f61cfbe5a87484f2b03e9220364f361ecf9bf0e0b837a3c0fc6", func := "loop.example/ltlcheck/laws.FnExactQuotientTrace", spec := "fnExactQuotientTrace", unfollowed := true, recurses := true, apart := false, narrowed := true }
def FnExactQuotientTraceUptoSaid : Prop := fnExactQuotientTraceUptoRow.holds Try.pinned (OpenSpec.upto fnExactQuotientTraceSpec)

/-- 'laws.FnGraphSame', WHERE WHAT IT READS IS OF BULK AT MOST 1048576: true; the input reads as it did. -/
def fnGraphSameUptoRow : OpenClaim := { program := "ytlhchhmfbimnhaa", sum := "a6ca6757ca5c6f61cfbe5a87484f2b03e9220364f361ecf9bf0e0b837a3c0fc6", func := "loop.example/ltlcheck/laws.FnGraphSame", spec := "fnGraphSame", unfollowed := true, recurses := true, apart := false, narrowed := true }
def FnGraphSameUptoSaid : Prop := fnGraphSameUptoRow.holds Try.pinned (OpenSpec.upto fnGraphSameSpec)

/-- 'laws.FnExactRefineBlocks', WHERE WHAT IT READS IS OF BULK AT MOST 1048576: true; the input reads as it did. -/
def fnExactRefineBlocksUptoRow : OpenClaim := { program := "ytlhchhmfbimnhaa", sum := "a6ca6757ca5c6f61cfbe5a87484f2b03e9220364f361ecf9bf0e0b837a3c0fc6", func := "loop.example/ltlcheck/laws.FnExactRefineBlocks", spec := "fnExactRefineBlocks", unfollowed := true, recurses := true, apart := false, narrowed := true }
def FnExactRefineBlocksUptoSaid : Prop := fnExactRefineBlocksUptoRow.holds Try.pinned (OpenSpec.upto fnExactRefineBlocksSpec)

end Rows
end Go.Proofs.Ytlhchhmfbimnhaa
