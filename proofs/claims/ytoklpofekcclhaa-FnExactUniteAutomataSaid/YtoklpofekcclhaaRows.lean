/-
  NARROWER THAN 'FOR EVERY INPUT', by the rows' own cells (each row's printed sentence says how): FnExactSystemSame: loops.
  DERIVED. THE GIVEN ROWS OF THIS SEAT. 11 by the template 'for every input the law returns true; each argument reads behind the call as it read before'; 0 by the template 'total and deterministic' (their statements: YtoklpofekcclhaaTotals.lean).
  GIVEN WITH THE SEED: the statements are not yours to turn. If you find one false, say at which input.
  Laid BY PROGRAM, IN A SANDBOX (cutbox-rows.mjs): the forced cells as the released guide's own fill.sh prints them over the translation ea5d91b1b175d5ec… (all of the seat's roots in one cut). By AI agents, Wed Nov 11 2026. No macro, syntax, notation, axiom, sorry.
-/
import Derived.Test.YtoklpofekcclhaaChecked
import GoSem.Claim
import GoSem.ClaimJoined
import GoSem.ClaimMapViews
import Derived.JoinedTies
import Derived.KernelRfl
namespace Go.Proofs.Ytoklpofekcclhaa
/- THE CELL 'sum', in the pinned program and in every row, IS THE sha256 OF THE DUMP (.gsa) THAT YtoklpofekcclhaaProg.lean LOADS. Nothing in Lean hashes anything: it is a label: what it is worth is what the hold of that sum in a sandbox is worth. -/
noncomputable def Try.pinned : Pinned := { name := "ytoklpofekcclhaa", sum := "ea5d91b1b175d5ece5e0aaa14ec49d56448a5cb9360548a5741ff1bb37ae5e32", checked := Try.checked }
namespace Rows
def none {H : Type} : Left H := { results := [], args := [] }

/-- 'laws.FnExactSystemSame': WHATEVER THE INPUT: true; the input reads as it did. -/
def fnExactSystemSameSpec : ChangeSpec := { name := "fnExactSystemSame", fn := fun _ => fun
  | [d1, d2] => { results := [.lit (.bool true)], args := [d1, d2] }
  | _ => none }
def fnExactSystemSameRow : OpenClaim := { program := "ytoklpofekcclhaa", sum := "ea5d91b1b175d5ece5e0aaa14ec49d56448a5cb9360548a5741ff1bb37ae5e32", func := "loop.example/ltlcheck/laws.FnExactSystemSame", spec := "fnExactSystemSame", unfollowed := true, recurses := true, loops := true, plainKeys := false, apart := false }
def FnExactSystemSameSaid : Prop := fnExactSystemSameRow.holds Try.pinned (OpenSpec.ofChange fnExactSystemSameSpec)

/-- ITS FALSE NEIGHBOUR: 'it returns false'. Refute it at one input. -/
def fnExactSystemSameWrong : ChangeSpec := { name := "fnExactSystemSame", fn := fun _ => fun
  | [d1, d2] => { results := [.lit (.bool false)], args := [d1, d2] }
  | _ => none }
def FnExactSystemSameWrongFalsely : Prop := fnExactSystemSameRow.holds Try.pinned (OpenSpec.ofChange fnExactSystemSameWrong)

/-- 'laws.FnExactUniteAutomata': WHATEVER THE INPUT: true; the input reads as it did. -/
def fnExactUniteAutomataSpec : ChangeSpec := { name := "fnExactUniteAutomata", fn := fun _ => fun
  | [d1, d2] => { results := [.lit (.bool true)], args := [d1, d2] }
  | _ => none }
def fnExactUniteAutomataRow : OpenClaim := { program := "ytoklpofekcclhaa", sum := "ea5d91b1b175d5ece5e0aaa14ec49d56448a5cb9360548a5741ff1bb37ae5e32", func := "loop.example/ltlcheck/laws.FnExactUniteAutomata", spec := "fnExactUniteAutomata", unfollowed := true, recurses := true, plainKeys := false, apart := false }
def FnExactUniteAutomataSaid : Prop := fnExactUniteAutomataRow.holds Try.pinned (OpenSpec.ofChange fnExactUniteAutomataSpec)

/-- ITS FALSE NEIGHBOUR: 'it returns false'. Refute it at one input. -/
def fnExactUniteAutomataWrong : ChangeSpec := { name := "fnExactUniteAutomata", fn := fun _ => fun
  | [d1, d2] => { results := [.lit (.bool false)], args := [d1, d2] }
  | _ => none }
def FnExactUniteAutomataWrongFalsely : Prop := fnExactUniteAutomataRow.holds Try.pinned (OpenSpec.ofChange fnExactUniteAutomataWrong)

/-- 'laws.FnExactComponents': WHATEVER THE INPUT: true; the input reads as it did. -/
def fnExactComponentsSpec : ChangeSpec := { name := "fnExactComponents", fn := fun _ => fun
  | [d] => { results := [.lit (.bool true)], args := [d] }
  | _ => none }
def fnExactComponentsRow : OpenClaim := { program := "ytoklpofekcclhaa", sum := "ea5d91b1b175d5ece5e0aaa14ec49d56448a5cb9360548a5741ff1bb37ae5e32", func := "loop.example/ltlcheck/laws.FnExactComponents", spec := "fnExactComponents", unfollowed := true, recurses := true, plainKeys := false, apart := false }
def FnExactComponentsSaid : Prop := fnExactComponentsRow.holds Try.pinned (OpenSpec.ofChange fnExactComponentsSpec)

/-- ITS FALSE NEIGHBOUR: 'it returns false'. Refute it at one input. -/
def fnExactComponentsWrong : ChangeSpec := { name := "fnExactComponents", fn := fun _ => fun
  | [d] => { results := [.lit (.bool false)], args := [d] }
  | _ => none }
def FnExactComponentsWrongFalsely : Prop := fnExactComponentsRow.holds Try.pinned (OpenSpec.ofChange fnExactComponentsWrong)

/-- 'laws.FnExactQuotientGraph': WHATEVER THE INPUT: true; the input reads as it did. -/
def fnExactQuotientGraphSpec : ChangeSpec := { name := "fnExactQuotientGraph", fn := fun _ => fun
  | [d1, d2] => { results := [.lit (.bool true)], args := [d1, d2] }
  | _ => none }
def fnExactQuotientGraphRow : OpenClaim := { program := "ytoklpofekcclhaa", sum := "ea5d91b1b175d5ece5e0aaa14ec49d56448a5cb9360548a5741ff1bb37ae5e32", func := "loop.example/ltlcheck/laws.FnExactQuotientGraph", spec := "fnExactQuotientGraph", unfollowed := true, recurses := true, plainKeys := false, apart := false }
def FnExactQuotientGraphSaid : Prop := fnExactQuotientGraphRow.holds Try.pinned (OpenSpec.ofChange fnExactQuotientGraphSpec)

/-- ITS FALSE NEIGHBOUR: 'it returns false'. Refute it at one input. -/
def fnExactQuotientGraphWrong : ChangeSpec := { name := "fnExactQuotientGraph", fn := fun _ => fun
  | [d1, d2] => { results := [.lit (.bool false)], args := [d1, d2] }
  | _ => none }
def FnExactQuotientGraphWrongFalsely : Prop := fnExactQuotientGraphRow.holds Try.pinned (OpenSpec.ofChange fnExactQuotientGraphWrong)

/-- 'laws.FnExactIntersectAutomata': WHATEVER THE INPUT: true; the input reads as it did. -/
def fnExactIntersectAutomataSpec : ChangeSpec := { name := "fnExactIntersectAutomata", fn := fun _ => fun
  | [d1, d2] => { results := [.lit (.bool true)], args := [d1, d2] }
  | _ => none }
def fnExactIntersectAutomataRow : OpenClaim := { program := "ytoklpofekcclhaa", sum := "ea5d91b1b175d5ece5e0aaa14ec49d56448a5cb9360548a5741ff1bb37ae5e32", func := "loop.example/ltlcheck/laws.FnExactIntersectAutomata", spec := "fnExactIntersectAutomata", unfollowed := true, recurses := true, plainKeys := false, apart := false }
def FnExactIntersectAutomataSaid : Prop := fnExactIntersectAutomataRow.holds Try.pinned (OpenSpec.ofChange fnExactIntersectAutomataSpec)

/-- ITS FALSE NEIGHBOUR: 'it returns false'. Refute it at one input. -/
def fnExactIntersectAutomataWrong : ChangeSpec := { name := "fnExactIntersectAutomata", fn := fun _ => fun
  | [d1, d2] => { results := [.lit (.bool false)], args := [d1, d2] }
  | _ => none }
def FnExactIntersectAutomataWrongFalsely : Prop := fnExactIntersectAutomataRow.holds Try.pinned (OpenSpec.ofChange fnExactIntersectAutomataWrong)

/-- 'laws.FnExactLiveStates': WHATEVER THE INPUT: true; the input reads as it did. -/
def fnExactLiveStatesSpec : ChangeSpec := { name := "fnExactLiveStates", fn := fun _ => fun
  | [d] => { results := [.lit (.bool true)], args := [d] }
  | _ => none }
def fnExactLiveStatesRow : OpenClaim := { program := "ytoklpofekcclhaa", sum := "ea5d91b1b175d5ece5e0aaa14ec49d56448a5cb9360548a5741ff1bb37ae5e32", func := "loop.example/ltlcheck/laws.FnExactLiveStates", spec := "fnExactLiveStates", unfollowed := true, recurses := true, plainKeys := false, apart := false }
def FnExactLiveStatesSaid : Prop := fnExactLiveStatesRow.holds Try.pinned (OpenSpec.ofChange fnExactLiveStatesSpec)

/-- ITS FALSE NEIGHBOUR: 'it returns false'. Refute it at one input. -/
def fnExactLiveStatesWrong : ChangeSpec := { name := "fnExactLiveStates", fn := fun _ => fun
  | [d] => { results := [.lit (.bool false)], args := [d] }
  | _ => none }
def FnExactLiveStatesWrongFalsely : Prop := fnExactLiveStatesRow.holds Try.pinned (OpenSpec.ofChange fnExactLiveStatesWrong)

/-- 'laws.FnExactAccepts': WHATEVER THE INPUT: true; the input reads as it did. -/
def fnExactAcceptsSpec : ChangeSpec := { name := "fnExactAccepts", fn := fun _ => fun
  | [d1, d2] => { results := [.lit (.bool true)], args := [d1, d2] }
  | _ => none }
def fnExactAcceptsRow : OpenClaim := { program := "ytoklpofekcclhaa", sum := "ea5d91b1b175d5ece5e0aaa14ec49d56448a5cb9360548a5741ff1bb37ae5e32", func := "loop.example/ltlcheck/laws.FnExactAccepts", spec := "fnExactAccepts", unfollowed := true, recurses := true, plainKeys := false, apart := false }
def FnExactAcceptsSaid : Prop := fnExactAcceptsRow.holds Try.pinned (OpenSpec.ofChange fnExactAcceptsSpec)

/-- ITS FALSE NEIGHBOUR: 'it returns false'. Refute it at one input. -/
def fnExactAcceptsWrong : ChangeSpec := { name := "fnExactAccepts", fn := fun _ => fun
  | [d1, d2] => { results := [.lit (.bool false)], args := [d1, d2] }
  | _ => none }
def FnExactAcceptsWrongFalsely : Prop := fnExactAcceptsRow.holds Try.pinned (OpenSpec.ofChange fnExactAcceptsWrong)

/-- 'laws.FnExactFindWord': WHATEVER THE INPUT: true; the input reads as it did. -/
def fnExactFindWordSpec : ChangeSpec := { name := "fnExactFindWord", fn := fun _ => fun
  | [d] => { results := [.lit (.bool true)], args := [d] }
  | _ => none }
def fnExactFindWordRow : OpenClaim := { program := "ytoklpofekcclhaa", sum := "ea5d91b1b175d5ece5e0aaa14ec49d56448a5cb9360548a5741ff1bb37ae5e32", func := "loop.example/ltlcheck/laws.FnExactFindWord", spec := "fnExactFindWord", unfollowed := true, recurses := true, plainKeys := false, apart := false }
def FnExactFindWordSaid : Prop := fnExactFindWordRow.holds Try.pinned (OpenSpec.ofChange fnExactFindWordSpec)

/-- ITS FALSE NEIGHBOUR: 'it returns false'. Refute it at one input. -/
def fnExactFindWordWrong : ChangeSpec := { name := "fnExactFindWord", fn := fun _ => fun
  | [d] => { results := [.lit (.bool false)], args := [d] }
  | _ => none }
def FnExactFindWordWrongFalsely : Prop := fnExactFindWordRow.holds Try.pinned (OpenSpec.ofChange fnExactFindWordWrong)

/-- 'laws.FnComponents': WHATEVER THE INPUT: true; the input reads as it did. -/
def fnComponentsSpec : ChangeSpec := { name := "fnComponents", fn := fun _ => fun
  | [d1, d2] => { results := [.lit (.bool true)], args := [d1, d2] }
  | _ => none }
def fnComponentsRow : OpenClaim := { program := "ytoklpofekcclhaa", sum := "ea5d91b1b175d5ece5e0aaa14ec49d56448a5cb9360548a5741ff1bb37ae5e32", func := "loop.example/ltlcheck/laws.FnComponents", spec := "fnComponents", unfollowed := true, recurses := true, plainKeys := false, apart := false }
def FnComponentsSaid : Prop := fnComponentsRow.holds Try.pinned (OpenSpec.ofChange fnComponentsSpec)

/-- ITS FALSE NEIGHBOUR: 'it returns false'. Refute it at one input. -/
def fnComponentsWrong : ChangeSpec := { name := "fnComponents", fn := fun _ => fun
  | [d1, d2] => { results := [.lit (.bool false)], args := [d1, d2] }
  | _ => none }
def FnComponentsWrongFalsely : Prop := fnComponentsRow.holds Try.pinned (OpenSpec.ofChange fnComponentsWrong)

/-- 'laws.FnLiveStates': WHATEVER THE INPUT: true; the input reads as it did. -/
def fnLiveStatesSpec : ChangeSpec := { name := "fnLiveStates", fn := fun _ => fun
  | [d] => { results := [.lit (.bool true)], args := [d] }
  | _ => none }
def fnLiveStatesRow : OpenClaim := { program := "ytoklpofekcclhaa", sum := "ea5d91b1b175d5ece5e0aaa14ec49d56448a5cb9360548a5741ff1bb37ae5e32", func := "loop.example/ltlcheck/laws.FnLiveStates", spec := "fnLiveStates", unfollowed := true, recurses := true, plainKeys := false, apart := false }
def FnLiveStatesSaid : Prop := fnLiveStatesRow.holds Try.pinned (OpenSpec.ofChange fnLiveStatesSpec)

/-- ITS FALSE NEIGHBOUR: 'it returns false'. Refute it at one input. -/
def fnLiveStatesWrong : ChangeSpec := { name := "fnLiveStates", fn := fun _ => fun
  | [d] => { results := [.lit (.bool false)], args := [d] }
  | _ => none }
def FnLiveStatesWrongFalsely : Prop := fnLiveStatesRow.holds Try.pinned (OpenSpec.ofChange fnLiveStatesWrong)

/-- 'laws.FnLiveWord': WHATEVER THE INPUT: true; the input reads as it did. -/
def fnLiveWordSpec : ChangeSpec := { name := "fnLiveWord", fn := fun _ => fun
  | [d1, d2] => { results := [.lit (.bool true)], args := [d1, d2] }
  | _ => none }
def fnLiveWordRow : OpenClaim := { program := "ytoklpofekcclhaa", sum := "ea5d91b1b175d5ece5e0aaa14ec49d56448a5cb9360548a5741ff1bb37ae5e32", func := "loop.example/ltlcheck/laws.FnLiveWord", spec := "fnLiveWord", unfollowed := true, recurses := true, plainKeys := false, apart := false }
def FnLiveWordSaid : Prop := fnLiveWordRow.holds Try.pinned (OpenSpec.ofChange fnLiveWordSpec)

/-- ITS FALSE NEIGHBOUR: 'it returns false'. Refute it at one input. -/
def fnLiveWordWrong : ChangeSpec := { name := "fnLiveWord", fn := fun _ => fun
  | [d1, d2] => { results := [.lit (.bool false)], args := [d1, d2] }
  | _ => none }
def FnLiveWordWrongFalsely : Prop := fnLiveWordRow.holds Try.pinned (OpenSpec.ofChange fnLiveWordWrong)

/- THE SECOND FORM. 'bulk': how many values and letters a reading holds, each counted each time it is reached (what is shared counts as often as it is met; a slice's spare places count too). A statement '..UptoSaid' is the law's where the arguments, and the package variables that the reading takes, are together of bulk at most 1048576: NARROWER than '..Said'. Prove '..Said' where nothing that the law and all that it calls make is longer than what came in: it says more and counts as full. Else prove '..UptoSaid'. A law counts once. -/
mutual
def uptoBulk {H : Type} : DataW H → Nat
  | .lit (.string bytes) => bytes.length + 1
  | .lit _ => 1
  | .nil => 1
  | .ptr d => uptoBulk d + 1
  | .slice elems spare => uptoBulkAll elems + uptoBulkAll spare + 1
  | .agg parts => uptoBulkAll parts + 1
  | .iface _ d => uptoBulk d + 1
  | .map entries => uptoBulkEntries entries + 1
  | .held _ => 1
def uptoBulkAll {H : Type} : List (DataW H) → Nat
  | [] => 0
  | d :: r => uptoBulk d + uptoBulkAll r
def uptoBulkEntries {H : Type} : List (Lit × DataW H) → Nat
  | [] => 0
  | x :: r => uptoBulkEntry x + uptoBulkEntries r
def uptoBulkEntry {H : Type} : Lit × DataW H → Nat
  | (.string bytes, d) => bytes.length + uptoBulk d + 1
  | (_, d) => uptoBulk d + 1
 end
def uptoSmall : (H : Type) → List (DataW H) → Bool := fun _ ds => decide (uptoBulkAll ds ≤ 1048576)
def OpenSpec.upto (s : _root_.Go.ChangeSpec) : _root_.Go.OpenSpec := { _root_.Go.OpenSpec.ofChange s with cond := some uptoSmall }

/-- 'laws.FnExactSystemSame', WHERE WHAT IT READS IS OF BULK AT MOST 1048576: true; the input reads as it did. -/
def fnExactSystemSameUptoRow : OpenClaim := { program := "ytoklpofekcclhaa", sum := "ea5d91b1b175d5ece5e0aaa14ec49d56448a5cb9360548a5741ff1bb37ae5e32", func := "loop.example/ltlcheck/laws.FnExactSystemSame", spec := "fnExactSystemSame", unfollowed := true, recurses := true, loops := true, plainKeys := false, apart := false, narrowed := true }
def FnExactSystemSameUptoSaid : Prop := fnExactSystemSameUptoRow.holds Try.pinned (OpenSpec.upto fnExactSystemSameSpec)

/-- 'laws.FnExactUniteAutomata', WHERE WHAT IT READS IS OF BULK AT MOST 1048576: true; the input reads as it did. -/
def fnExactUniteAutomataUptoRow : OpenClaim := { program := "ytoklpofekcclhaa", sum := "ea5d91b1b175d5ece5e0aaa14ec49d56448a5cb9360548a5741ff1bb37ae5e32", func := "loop.example/ltlcheck/laws.FnExactUniteAutomata", spec := "fnExactUniteAutomata", unfollowed := true, recurses := true, plainKeys := false, apart := false, narrowed := true }
def FnExactUniteAutomataUptoSaid : Prop := fnExactUniteAutomataUptoRow.holds Try.pinned (OpenSpec.upto fnExactUniteAutomataSpec)

/-- 'laws.FnExactComponents', WHERE WHAT IT READS IS OF BULK AT MOST 1048576: true; the input reads as it did. -/
def fnExactComponentsUptoRow : OpenClaim := { program := "ytoklpofekcclhaa", sum := "ea5d91b1b175d5ece5e0aaa14ec49d56448a5cb9360548a5741ff1bb37ae5e32", func := "loop.example/ltlcheck/laws.FnExactComponents", spec := "fnExactComponents", unfollowed := true, recurses := true, plainKeys := false, apart := false, narrowed := true }
def FnExactComponentsUptoSaid : Prop := fnExactComponentsUptoRow.holds Try.pinned (OpenSpec.upto fnExactComponentsSpec)

/-- 'laws.FnExactQuotientGraph', WHERE WHAT IT READS IS OF BULK AT MOST 1048576: true; the input reads as it did. -/
def fnExactQuotientGraphUptoRow : OpenClaim := { program := "ytoklpofekcclhaa", sum := "ea5d91b1b175d5ece5e0aaa14ec49d56448a5cb9360548a5741ff1bb37ae5e32", func := "loop.example/ltlcheck/laws.FnExactQuotientGraph", spec := "fnExactQuotientGraph", unfollowed := true, recurses := true, plainKeys := false, apart := false, narrowed := true }
def FnExactQuotientGraphUptoSaid : Prop := fnExactQuotientGraphUptoRow.holds Try.pinned (OpenSpec.upto fnExactQuotientGraphSpec)

/-- 'laws.FnExactIntersectAutomata', WHERE WHAT IT READS IS OF BULK AT MOST 1048576: true; the input reads as it did. -/
def fnExactIntersectAutomataUptoRow : OpenClaim := { program := "ytoklpofekcclhaa", sum := "ea5d91b1b175d5ece5e0aaa14ec49d56448a5cb9360548a5741ff1bb37ae5e32", func := "loop.example/ltlcheck/laws.FnExactIntersectAutomata", spec := "fnExactIntersectAutomata", unfollowed := true, recurses := true, plainKeys := false, apart := false, narrowed := true }
def FnExactIntersectAutomataUptoSaid : Prop := fnExactIntersectAutomataUptoRow.holds Try.pinned (OpenSpec.upto fnExactIntersectAutomataSpec)

/-- 'laws.FnExactLiveStates', WHERE WHAT IT READS IS OF BULK AT MOST 1048576: true; the input reads as it did. -/
def fnExactLiveStatesUptoRow : OpenClaim := { program := "ytoklpofekcclhaa", sum := "ea5d91b1b175d5ece5e0aaa14ec49d56448a5cb9360548a5741ff1bb37ae5e32", func := "loop.example/ltlcheck/laws.FnExactLiveStates", spec := "fnExactLiveStates", unfollowed := true, recurses := true, plainKeys := false, apart := false, narrowed := true }
def FnExactLiveStatesUptoSaid : Prop := fnExactLiveStatesUptoRow.holds Try.pinned (OpenSpec.upto fnExactLiveStatesSpec)

/-- 'laws.FnExactAccepts', WHERE WHAT IT READS IS OF BULK AT MOST 1048576: true; the input reads as it did. -/
def fnExactAcceptsUptoRow : OpenClaim := { program := "ytoklpofekcclhaa", sum := "ea5d91b1b175d5ece5e0aaa14ec49d56448a5cb9360548a5741ff1bb37ae5e32", func := "loop.example/ltlcheck/laws.FnExactAccepts", spec := "fnExactAccepts", unfollowed := true, recurses := true, plainKeys := false, apart := false, narrowed := true }
def FnExactAcceptsUptoSaid : Prop := fnExactAcceptsUptoRow.holds Try.pinned (OpenSpec.upto fnExactAcceptsSpec)

/-- 'laws.FnExactFindWord', WHERE WHAT IT READS IS OF BULK AT MOST 1048576: true; the input reads as it did. -/
def fnExactFindWordUptoRow : OpenClaim := { program := "ytoklpofekcclhaa", sum := "ea5d91b1b175d5ece5e0aaa14ec49d56448a5cb9360548a5741ff1bb37ae5e32", func := "loop.example/ltlcheck/laws.FnExactFindWord", spec := "fnExactFindWord", unfollowed := true, recurses := true, plainKeys := false, apart := false, narrowed := true }
def FnExactFindWordUptoSaid : Prop := fnExactFindWordUptoRow.holds Try.pinned (OpenSpec.upto fnExactFindWordSpec)

/-- 'laws.FnComponents', WHERE WHAT IT READS IS OF BULK AT MOST 1048576: true; the input reads as it did. -/
def fnComponentsUptoRow : OpenClaim := { program := "ytoklpofekcclhaa", sum := "ea5d91b1b175d5ece5e0aaa14ec49d56448a5cb9360548a5741ff1bb37ae5e32", func := "loop.example/ltlcheck/laws.FnComponents", spec := "fnComponents", unfollowed := true, recurses := true, plainKeys := false, apart := false, narrowed := true }
def FnComponentsUptoSaid : Prop := fnComponentsUptoRow.holds Try.pinned (OpenSpec.upto fnComponentsSpec)

/-- 'laws.FnLiveStates', WHERE WHAT IT READS IS OF BULK AT MOST 1048576: true; the input reads as it did. -/
def fnLiveStatesUptoRow : OpenClaim := { program := "ytoklpofekcclhaa", sum := "ea5d91b1b175d5ece5e0aaa14ec49d56448a5cb9360548a5741ff1bb37ae5e32", func := "loop.example/ltlcheck/laws.FnLiveStates", spec := "fnLiveStates", unfollowed := true, recurses := true, plainKeys := false, apart := false, narrowed := true }
def FnLiveStatesUptoSaid : Prop := fnLiveStatesUptoRow.holds Try.pinned (OpenSpec.upto fnLiveStatesSpec)

/-- 'laws.FnLiveWord', WHERE WHAT IT READS IS OF BULK AT MOST 1048576: true; the input reads as it did. -/
def fnLiveWordUptoRow : OpenClaim := { program := "ytoklpofekcclhaa", sum := "ea5d91b1b175d5ece5e0aaa14ec49d56448a5cb9360548a5741ff1bb37ae5e32", func := "loop.example/ltlcheck/laws.FnLiveWord", spec := "fnLiveWord", unfollowed := true, recurses := true, plainKeys := false, apart := false, narrowed := true }
def FnLiveWordUptoSaid : Prop := fnLiveWordUptoRow.holds Try.pinned (OpenSpec.upto fnLiveWordSpec)

end Rows
end Go.Proofs.Ytoklpofekcclhaa
