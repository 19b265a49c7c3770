/-
  No cell of these rows narrows 'for every input' (looked for: loops, veiled, ifaces, maps, wideKeys, modest, calm, conditions, laid).
  DERIVED. THE GIVEN ROWS OF THIS SEAT. 5 by the template 'for every input the law returns true; each argument reads behind the call as it read before'; 0 by the template 'total and deterministic' (their statements: YtcbhfdcohohmcaaTotals.lean).
  GIVEN WITH THE SEED: the statements are not yours to turn. If you find one false, say at which input.
  Laid BY PROGRAM, IN A SANDBOX (cutbox-rows.mjs): the forced cells as the released guide's own fill.sh prints them over the translation c706fcdc2bab6117… (all of the seat's roots in one cut). By AI agents, Wed Nov 11 2026. No macro, syntax, notation, axiom, sorry.
-/
import Derived.Test.YtcbhfdcohohmcaaChecked
import GoSem.Claim
import GoSem.ClaimJoined
import GoSem.ClaimMapViews
import Derived.JoinedTies
import Derived.KernelRfl
namespace Go.Proofs.Ytcbhfdcohohmcaa
/- THE CELL 'sum', in the pinned program and in every row, IS THE sha256 OF THE DUMP (.gsa) THAT YtcbhfdcohohmcaaProg.lean LOADS. Nothing in Lean hashes anything: it is a label: what it is worth is what the hold of that sum in a sandbox is worth. -/
noncomputable def Try.pinned : Pinned := { name := "ytcbhfdcohohmcaa", sum := "c706fcdc2bab6117cb5aed6c5cd39f043efde7800260d78829b6911c4e9802de", checked := Try.checked }
namespace Rows
def none {H : Type} : Left H := { results := [], args := [] }

/-- 'laws.FnExactAutomatonSame': WHATEVER THE INPUT: true; the input reads as it did. -/
def fnExactAutomatonSameSpec : ChangeSpec := { name := "fnExactAutomatonSame", fn := fun _ => fun
  | [d1, d2] => { results := [.lit (.bool true)], args := [d1, d2] }
  | _ => none }
def fnExactAutomatonSameRow : OpenClaim := { program := "ytcbhfdcohohmcaa", sum := "c706fcdc2bab6117cb5aed6c5cd39f043efde7800260d78829b6911c4e9802de", func := "loop.example/ltlcheck/laws.FnExactAutomatonSame", spec := "fnExactAutomatonSame", apart := false }
def FnExactAutomatonSameSaid : Prop := fnExactAutomatonSameRow.holds Try.pinned (OpenSpec.ofChange fnExactAutomatonSameSpec)

/-- ITS FALSE NEIGHBOUR: 'it returns false'. Refute it at one input. -/
def fnExactAutomatonSameWrong : ChangeSpec := { name := "fnExactAutomatonSame", fn := fun _ => fun
  | [d1, d2] => { results := [.lit (.bool false)], args := [d1, d2] }
  | _ => none }
def FnExactAutomatonSameWrongFalsely : Prop := fnExactAutomatonSameRow.holds Try.pinned (OpenSpec.ofChange fnExactAutomatonSameWrong)

/-- 'laws.FnExactAutomatonValid': WHATEVER THE INPUT: true; the input reads as it did. -/
def fnExactAutomatonValidSpec : ChangeSpec := { name := "fnExactAutomatonValid", fn := fun _ => fun
  | [d] => { results := [.lit (.bool true)], args := [d] }
  | _ => none }
def fnExactAutomatonValidRow : OpenClaim := { program := "ytcbhfdcohohmcaa", sum := "c706fcdc2bab6117cb5aed6c5cd39f043efde7800260d78829b6911c4e9802de", func := "loop.example/ltlcheck/laws.FnExactAutomatonValid", spec := "fnExactAutomatonValid", unfollowed := true, recurses := true, apart := false }
def FnExactAutomatonValidSaid : Prop := fnExactAutomatonValidRow.holds Try.pinned (OpenSpec.ofChange fnExactAutomatonValidSpec)

/-- ITS FALSE NEIGHBOUR: 'it returns false'. Refute it at one input. -/
def fnExactAutomatonValidWrong : ChangeSpec := { name := "fnExactAutomatonValid", fn := fun _ => fun
  | [d] => { results := [.lit (.bool false)], args := [d] }
  | _ => none }
def FnExactAutomatonValidWrongFalsely : Prop := fnExactAutomatonValidRow.holds Try.pinned (OpenSpec.ofChange fnExactAutomatonValidWrong)

/-- 'laws.FnExactUniteAutomata': WHATEVER THE INPUT: true; the input reads as it did. -/
def fnExactUniteAutomataSpec : ChangeSpec := { name := "fnExactUniteAutomata", fn := fun _ => fun
  | [d1, d2] => { results := [.lit (.bool true)], args := [d1, d2] }
  | _ => none }
def fnExactUniteAutomataRow : OpenClaim := { program := "ytcbhfdcohohmcaa", sum := "c706fcdc2bab6117cb5aed6c5cd39f043efde7800260d78829b6911c4e9802de", func := "loop.example/ltlcheck/laws.FnExactUniteAutomata", spec := "fnExactUniteAutomata", unfollowed := true, recurses := true, apart := false }
def FnExactUniteAutomataSaid : Prop := fnExactUniteAutomataRow.holds Try.pinned (OpenSpec.ofChange fnExactUniteAutomataSpec)

/-- ITS FALSE NEIGHBOUR: 'it returns false'. Refute it at one input. -/
def fnExactUniteAutomataWrong : ChangeSpec := { name := "fnExactUniteAutomata", fn := fun _ => fun
  | [d1, d2] => { results := [.lit (.bool false)], args := [d1, d2] }
  | _ => none }
def FnExactUniteAutomataWrongFalsely : Prop := fnExactUniteAutomataRow.holds Try.pinned (OpenSpec.ofChange fnExactUniteAutomataWrong)

/-- 'laws.FnExactLiveStates': WHATEVER THE INPUT: true; the input reads as it did. -/
def fnExactLiveStatesSpec : ChangeSpec := { name := "fnExactLiveStates", fn := fun _ => fun
  | [d] => { results := [.lit (.bool true)], args := [d] }
  | _ => none }
def fnExactLiveStatesRow : OpenClaim := { program := "ytcbhfdcohohmcaa", sum := "c706fcdc2bab6117cb5aed6c5cd39f043efde7800260d78829b6911c4e9802de", func := "loop.example/ltlcheck/laws.FnExactLiveStates", spec := "fnExactLiveStates", unfollowed := true, recurses := true, apart := false }
def FnExactLiveStatesSaid : Prop := fnExactLiveStatesRow.holds Try.pinned (OpenSpec.ofChange fnExactLiveStatesSpec)

/-- ITS FALSE NEIGHBOUR: 'it returns false'. Refute it at one input. -/
def fnExactLiveStatesWrong : ChangeSpec := { name := "fnExactLiveStates", fn := fun _ => fun
  | [d] => { results := [.lit (.bool false)], args := [d] }
  | _ => none }
def FnExactLiveStatesWrongFalsely : Prop := fnExactLiveStatesRow.holds Try.pinned (OpenSpec.ofChange fnExactLiveStatesWrong)

/-- 'laws.FnExactAccepts': WHATEVER THE INPUT: true; the input reads as it did. -/
def fnExactAcceptsSpec : ChangeSpec := { name := "fnExactAccepts", fn := fun _ => fun
  | [d1, d2] => { results := [.lit (.bool true)], args := [d1, d2] }
  | _ => none }
def fnExactAcceptsRow : OpenClaim := { program := "ytcbhfdcohohmcaa", sum := "c706fcdc2bab6117cb5aed6c5cd39f043efde7800260d78829b6911c4e9802de", func := "loop.example/ltlcheck/laws.FnExactAccepts", spec := "fnExactAccepts", unfollowed := true, recurses := true, apart := false }
def FnExactAcceptsSaid : Prop := fnExactAcceptsRow.holds Try.pinned (OpenSpec.ofChange fnExactAcceptsSpec)

/-- ITS FALSE NEIGHBOUR: 'it returns false'. Refute it at one input. -/
def fnExactAcceptsWrong : ChangeSpec := { name := "fnExactAccepts", fn := fun _ => fun
  | [d1, d2] => { results := [.lit (.bool false)], args := [d1, d2] }
  | _ => none }
def FnExactAcceptsWrongFalsely : Prop := fnExactAcceptsRow.holds Try.pinned (OpenSpec.ofChange fnExactAcceptsWrong)

/- THE SECOND FORM. 'bulk': how many values and letters a reading holds, each counted each time it is reached (what is shared counts as often as it is met; a slice's spare places count too). A statement '..UptoSaid' is the law's where the arguments, and the package variables that the reading takes, are together of bulk at most 1048576: NARROWER than '..Said'. Prove '..Said' where nothing that the law and all that it calls make is longer than what came in: it says more and counts as full. Else prove '..UptoSaid'. A law counts once. -/
mutual
def uptoBulk {H : Type} : DataW H → Nat
  | .lit (.string bytes) => bytes.length + 1
  | .lit _ => 1
  | .nil => 1
  | .ptr d => uptoBulk d + 1
  | .slice elems spare => uptoBulkAll elems + uptoBulkAll spare + 1
  | .agg parts => uptoBulkAll parts + 1
  | .iface _ d => uptoBulk d + 1
  | .map entries => uptoBulkEntries entries + 1
  | .held _ => 1
def uptoBulkAll {H : Type} : List (DataW H) → Nat
  | [] => 0
  | d :: r => uptoBulk d + uptoBulkAll r
def uptoBulkEntries {H : Type} : List (Lit × DataW H) → Nat
  | [] => 0
  | x :: r => uptoBulkEntry x + uptoBulkEntries r
def uptoBulkEntry {H : Type} : Lit × DataW H → Nat
  | (.string bytes, d) => bytes.length + uptoBulk d + 1
  | (_, d) => uptoBulk d + 1
 end
def uptoSmall : (H : Type) → List (DataW H) → Bool := fun _ ds => decide (uptoBulkAll ds ≤ 1048576)
def OpenSpec.upto (s : _root_.Go.ChangeSpec) : _root_.Go.OpenSpec := { _root_.Go.OpenSpec.ofChange s with cond := some uptoSmall }

/-- 'laws.FnExactAutomatonSame', WHERE WHAT IT READS IS OF BULK AT MOST 1048576: true; the input reads as it did. -/
def fnExactAutomatonSameUptoRow : OpenClaim := { program := "ytcbhfdcohohmcaa", sum := "c706fcdc2bab6117cb5aed6c5cd39f043efde7800260d78829b6911c4e9802de", func := "loop.example/ltlcheck/laws.FnExactAutomatonSame", spec := "fnExactAutomatonSame", apart := false, narrowed := true }
def FnExactAutomatonSameUptoSaid : Prop := fnExactAutomatonSameUptoRow.holds Try.pinned (OpenSpec.upto fnExactAutomatonSameSpec)

/-- 'laws.FnExactAutomatonValid', WHERE WHAT IT READS IS OF BULK AT MOST 1048576: true; the input reads as it did. -/
def fnExactAutomatonValidUptoRow : OpenClaim := { program := "ytcbhfdcohohmcaa", sum := "c706fcdc2bab6117cb5aed6c5cd39f043efde7800260d78829b6911c4e9802de", func := "loop.example/ltlcheck/laws.FnExactAutomatonValid", spec := "fnExactAutomatonValid", unfollowed := true, recurses := true, apart := false, narrowed := true }
def FnExactAutomatonValidUptoSaid : Prop := fnExactAutomatonValidUptoRow.holds Try.pinned (OpenSpec.upto fnExactAutomatonValidSpec)

/-- 'laws.FnExactUniteAutomata', WHERE WHAT IT READS IS OF BULK AT MOST 1048576: true; the input reads as it did. -/
def fnExactUniteAutomataUptoRow : OpenClaim := { program := "ytcbhfdcohohmcaa", sum := "c706fcdc2bab6117cb5aed6c5cd39f043efde7800260d78829b6911c4e9802de", func := "loop.example/ltlcheck/laws.FnExactUniteAutomata", spec := "fnExactUniteAutomata", unfollowed := true, recurses := true, apart := false, narrowed := true }
def FnExactUniteAutomataUptoSaid : Prop := fnExactUniteAutomataUptoRow.holds Try.pinned (OpenSpec.upto fnExactUniteAutomataSpec)

/-- 'laws.FnExactLiveStates', WHERE WHAT IT READS IS OF BULK AT MOST 1048576: true; the input reads as it did. -/
def fnExactLiveStatesUptoRow : OpenClaim := { program := "ytcbhfdcohohmcaa", sum := "c706fcdc2bab6117cb5aed6c5cd39f043efde7800260d78829b6911c4e9802de", func := "loop.example/ltlcheck/laws.FnExactLiveStates", spec := "fnExactLiveStates", unfollowed := true, recurses := true, apart := false, narrowed := true }
def FnExactLiveStatesUptoSaid : Prop := fnExactLiveStatesUptoRow.holds Try.pinned (OpenSpec.upto fnExactLiveStatesSpec)

/-- 'laws.FnExactAccepts', WHERE WHAT IT READS IS OF BULK AT MOST 1048576: true; the input reads as it did. -/
def fnExactAcceptsUptoRow : OpenClaim := { program := "ytcbhfdcohohmcaa", sum := "c706fcdc2bab6117cb5aed6c5cd39f043efde7800260d78829b6911c4e9802de", func := "loop.example/ltlcheck/laws.FnExactAccepts", spec := "fnExactAccepts", unfollowed := true, recurses := true, apart := false, narrowed := true }
def FnExactAcceptsUptoSaid : Prop := fnExactAcceptsUptoRow.holds Try.pinned (OpenSpec.upto fnExactAcceptsSpec)

end Rows
end Go.Proofs.Ytcbhfdcohohmcaa
