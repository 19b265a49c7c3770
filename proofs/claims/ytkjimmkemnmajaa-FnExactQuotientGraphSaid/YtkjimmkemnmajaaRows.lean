/-
  NARROWER THAN 'FOR EVERY INPUT', by the rows' own cells (each row's printed sentence says how): FnExactSystemSame: loops.
  DERIVED. THE GIVEN ROWS OF THIS SEAT. 12 by the template 'for every input the law returns true; each argument reads behind the call as it read before'; 0 by the template 'total and deterministic' (their statements: YtkjimmkemnmajaaTotals.lean).
  GIVEN WITH THE SEED: the statements are not yours to turn. If you find one false, say at which input.
  Laid BY PROGRAM, IN A SANDBOX (cutbox-rows.mjs): the forced cells as the released guide's own fill.sh prints them over the translation bcc7c6220102f1d0… (all of the seat's roots in one cut). By AI agents, Wed Nov 11 2026. No macro, syntax, notation, axiom, sorry.
-/
import Derived.Test.YtkjimmkemnmajaaChecked
import GoSem.Claim
import GoSem.ClaimJoined
import GoSem.ClaimMapViews
import Derived.JoinedTies
import Derived.KernelRfl
namespace Go.Proofs.Ytkjimmkemnmajaa
/- THE CELL 'sum', in the pinned program and in every row, IS THE sha256 OF THE DUMP (.gsa) THAT YtkjimmkemnmajaaProg.lean LOADS. Nothing in Lean hashes anything: it is a label: what it is worth is what the hold of that sum in a sandbox is worth. -/
noncomputable def Try.pinned : Pinned := { name := "ytkjimmkemnmajaa", sum := "bcc7c6220102f1d07e5ee0b560deed10a32e73aa7807ab72d201136353bec7c7", checked := Try.checked }
namespace Rows
def none {H : Type} : Left H := { results := [], args := [] }

/-- 'laws.FnExactFindWord': WHATEVER THE INPUT: true; the input reads as it did. -/
def fnExactFindWordSpec : ChangeSpec := { name := "fnExactFindWord", fn := fun _ => fun
  | [d] => { results := [.lit (.bool true)], args := [d] }
  | _ => none }
def fnExactFindWordRow : OpenClaim := { program := "ytkjimmkemnmajaa", sum := "bcc7c6220102f1d07e5ee0b560deed10a32e73aa7807ab72d201136353bec7c7", func := "loop.example/ltlcheck/laws.FnExactFindWord", spec := "fnExactFindWord", unfollowed := true, recurses := true, plainKeys := false, apart := false }
def FnExactFindWordSaid : Prop := fnExactFindWordRow.holds Try.pinned (OpenSpec.ofChange fnExactFindWordSpec)

/-- ITS FALSE NEIGHBOUR: 'it returns false'. Refute it at one input. -/
def fnExactFindWordWrong : ChangeSpec := { name := "fnExactFindWord", fn := fun _ => fun
  | [d] => { results := [.lit (.bool false)], args := [d] }
  | _ => none }
def FnExactFindWordWrongFalsely : Prop := fnExactFindWordRow.holds Try.pinned (OpenSpec.ofChange fnExactFindWordWrong)

/-- 'laws.FnExactIntersectAutomata': WHATEVER THE INPUT: true; the input reads as it did. -/
def fnExactIntersectAutomataSpec : ChangeSpec := { name := "fnExactIntersectAutomata", fn := fun _ => fun
  | [d1, d2] => { results := [.lit (.bool true)], args := [d1, d2] }
  | _ => none }
def fnExactIntersectAutomataRow : OpenClaim := { program := "ytkjimmkemnmajaa", sum := "bcc7c6220102f1d07e5ee0b560deed10a32e73aa7807ab72d201136353bec7c7", func := "loop.example/ltlcheck/laws.FnExactIntersectAutomata", spec := "fnExactIntersectAutomata", unfollowed := true, recurses := true, plainKeys := false, apart := false }
def FnExactIntersectAutomataSaid : Prop := fnExactIntersectAutomataRow.holds Try.pinned (OpenSpec.ofChange fnExactIntersectAutomataSpec)

/-- ITS FALSE NEIGHBOUR: 'it returns false'. Refute it at one input. -/
def fnExactIntersectAutomataWrong : ChangeSpec := { name := "fnExactIntersectAutomata", fn := fun _ => fun
  | [d1, d2] => { results := [.lit (.bool false)], args := [d1, d2] }
  | _ => none }
def FnExactIntersectAutomataWrongFalsely : Prop := fnExactIntersectAutomataRow.holds Try.pinned (OpenSpec.ofChange fnExactIntersectAutomataWrong)

/-- 'laws.FnExactQuotientGraph': WHATEVER THE INPUT: true; the input reads as it did. -/
def fnExactQuotientGraphSpec : ChangeSpec := { name := "fnExactQuotientGraph", fn := fun _ => fun
  | [d1, d2] => { results := [.lit (.bool true)], args := [d1, d2] }
  | _ => none }
def fnExactQuotientGraphRow : OpenClaim := { program := "ytkjimmkemnmajaa", sum := "bcc7c6220102f1d07e5ee0b560deed10a32e73aa7807ab72d201136353bec7c7", func := "loop.example/ltlcheck/laws.FnExactQuotientGraph", spec := "fnExactQuotientGraph", unfollowed := true, recurses := true, plainKeys := false, apart := false }
def FnExactQuotientGraphSaid : Prop := fnExactQuotientGraphRow.holds Try.pinned (OpenSpec.ofChange fnExactQuotientGraphSpec)

/-- ITS FALSE NEIGHBOUR: 'it returns false'. Refute it at one input. -/
def fnExactQuotientGraphWrong : ChangeSpec := { name := "fnExactQuotientGraph", fn := fun _ => fun
  | [d1, d2] => { results := [.lit (.bool false)], args := [d1, d2] }
  | _ => none }
def FnExactQuotientGraphWrongFalsely : Prop := fnExactQuotientGraphRow.holds Try.pinned (OpenSpec.ofChange fnExactQuotientGraphWrong)

/-- 'laws.FnExactSystemSame': WHATEVER THE INPUT: true; the input reads as it did. -/
def fnExactSystemSameSpec : ChangeSpec := { name := "fnExactSystemSame", fn := fun _ => fun
  | [d1, d2] => { results := [.lit (.bool true)], args := [d1, d2] }
  | _ => none }
def fnExactSystemSameRow : OpenClaim := { program := "ytkjimmkemnmajaa", sum := "bcc7c6220102f1d07e5ee0b560deed10a32e73aa7807ab72d201136353bec7c7", func := "loop.example/ltlcheck/laws.FnExactSystemSame", spec := "fnExactSystemSame", unfollowed := true, recurses := true, loops := true, plainKeys := false, apart := false }
def FnExactSystemSameSaid : Prop := fnExactSystemSameRow.holds Try.pinned (OpenSpec.ofChange fnExactSystemSameSpec)

/-- ITS FALSE NEIGHBOUR: 'it returns false'. Refute it at one input. -/
def fnExactSystemSameWrong : ChangeSpec := { name := "fnExactSystemSame", fn := fun _ => fun
  | [d1, d2] => { results := [.lit (.bool false)], args := [d1, d2] }
  | _ => none }
def FnExactSystemSameWrongFalsely : Prop := fnExactSystemSameRow.holds Try.pinned (OpenSpec.ofChange fnExactSystemSameWrong)

/-- 'laws.FnLiveStates': WHATEVER THE INPUT: true; the input reads as it did. -/
def fnLiveStatesSpec : ChangeSpec := { name := "fnLiveStates", fn := fun _ => fun
  | [d] => { results := [.lit (.bool true)], args := [d] }
  | _ => none }
def fnLiveStatesRow : OpenClaim := { program := "ytkjimmkemnmajaa", sum := "bcc7c6220102f1d07e5ee0b560deed10a32e73aa7807ab72d201136353bec7c7", func := "loop.example/ltlcheck/laws.FnLiveStates", spec := "fnLiveStates", unfollowed := true, recurses := true, plainKeys := false, apart := false }
def FnLiveStatesSaid : Prop := fnLiveStatesRow.holds Try.pinned (OpenSpec.ofChange fnLiveStatesSpec)

/-- ITS FALSE NEIGHBOUR: 'it returns false'. Refute it at one input. -/
def fnLiveStatesWrong : ChangeSpec := { name := "fnLiveStates", fn := fun _ => fun
  | [d] => { results := [.lit (.bool false)], args := [d] }
  | _ => none }
def FnLiveStatesWrongFalsely : Prop := fnLiveStatesRow.holds Try.pinned (OpenSpec.ofChange fnLiveStatesWrong)

/-- 'laws.FnUniteAutomata': WHATEVER THE INPUT: true; the input reads as it did. -/
def fnUniteAutomataSpec : ChangeSpec := { name := "fnUniteAutomata", fn := fun _ => fun
  | [d1, d2] => { results := [.lit (.bool true)], args := [d1, d2] }
  | _ => none }
def fnUniteAutomataRow : OpenClaim := { program := "ytkjimmkemnmajaa", sum := "bcc7c6220102f1d07e5ee0b560deed10a32e73aa7807ab72d201136353bec7c7", func := "loop.example/ltlcheck/laws.FnUniteAutomata", spec := "fnUniteAutomata", unfollowed := true, recurses := true, plainKeys := false, apart := false }
def FnUniteAutomataSaid : Prop := fnUniteAutomataRow.holds Try.pinned (OpenSpec.ofChange fnUniteAutomataSpec)

/-- ITS FALSE NEIGHBOUR: 'it returns false'. Refute it at one input. -/
def fnUniteAutomataWrong : ChangeSpec := { name := "fnUniteAutomata", fn := fun _ => fun
  | [d1, d2] => { results := [.lit (.bool false)], args := [d1, d2] }
  | _ => none }
def FnUniteAutomataWrongFalsely : Prop := fnUniteAutomataRow.holds Try.pinned (OpenSpec.ofChange fnUniteAutomataWrong)

/-- 'laws.FnLiveWord': WHATEVER THE INPUT: true; the input reads as it did. -/
def fnLiveWordSpec : ChangeSpec := { name := "fnLiveWord", fn := fun _ => fun
  | [d1, d2] => { results := [.lit (.bool true)], args := [d1, d2] }
  | _ => none }
def fnLiveWordRow : OpenClaim := { program := "ytkjimmkemnmajaa", sum := "bcc7c6220102f1d07e5ee0b560deed10a32e73aa7807ab72d201136353bec7c7", func := "loop.example/ltlcheck/laws.FnLiveWord", spec := "fnLiveWord", unfollowed := true, recurses := true, plainKeys := false, apart := false }
def FnLiveWordSaid : Prop := fnLiveWordRow.holds Try.pinned (OpenSpec.ofChange fnLiveWordSpec)

/-- ITS FALSE NEIGHBOUR: 'it returns false'. Refute it at one input. -/
def fnLiveWordWrong : ChangeSpec := { name := "fnLiveWord", fn := fun _ => fun
  | [d1, d2] => { results := [.lit (.bool false)], args := [d1, d2] }
  | _ => none }
def FnLiveWordWrongFalsely : Prop := fnLiveWordRow.holds Try.pinned (OpenSpec.ofChange fnLiveWordWrong)

/-- 'laws.FnAcceptsSuffix': WHATEVER THE INPUT: true; the input reads as it did. -/
def fnAcceptsSuffixSpec : ChangeSpec := { name := "fnAcceptsSuffix", fn := fun _ => fun
  | [d] => { results := [.lit (.bool true)], args := [d] }
  | _ => none }
def fnAcceptsSuffixRow : OpenClaim := { program := "ytkjimmkemnmajaa", sum := "bcc7c6220102f1d07e5ee0b560deed10a32e73aa7807ab72d201136353bec7c7", func := "loop.example/ltlcheck/laws.FnAcceptsSuffix", spec := "fnAcceptsSuffix", unfollowed := true, recurses := true, plainKeys := false, apart := false }
def FnAcceptsSuffixSaid : Prop := fnAcceptsSuffixRow.holds Try.pinned (OpenSpec.ofChange fnAcceptsSuffixSpec)

/-- ITS FALSE NEIGHBOUR: 'it returns false'. Refute it at one input. -/
def fnAcceptsSuffixWrong : ChangeSpec := { name := "fnAcceptsSuffix", fn := fun _ => fun
  | [d] => { results := [.lit (.bool false)], args := [d] }
  | _ => none }
def FnAcceptsSuffixWrongFalsely : Prop := fnAcceptsSuffixRow.holds Try.pinned (OpenSpec.ofChange fnAcceptsSuffixWrong)

/-- 'laws.FnAcceptsWord': WHATEVER THE INPUT: true; the input reads as it did. -/
def fnAcceptsWordSpec : ChangeSpec := { name := "fnAcceptsWord", fn := fun _ => fun
  | [d1, d2] => { results := [.lit (.bool true)], args := [d1, d2] }
  | _ => none }
def fnAcceptsWordRow : OpenClaim := { program := "ytkjimmkemnmajaa", sum := "bcc7c6220102f1d07e5ee0b560deed10a32e73aa7807ab72d201136353bec7c7", func := "loop.example/ltlcheck/laws.FnAcceptsWord", spec := "fnAcceptsWord", unfollowed := true, recurses := true, plainKeys := false, apart := false }
def FnAcceptsWordSaid : Prop := fnAcceptsWordRow.holds Try.pinned (OpenSpec.ofChange fnAcceptsWordSpec)

/-- ITS FALSE NEIGHBOUR: 'it returns false'. Refute it at one input. -/
def fnAcceptsWordWrong : ChangeSpec := { name := "fnAcceptsWord", fn := fun _ => fun
  | [d1, d2] => { results := [.lit (.bool false)], args := [d1, d2] }
  | _ => none }
def FnAcceptsWordWrongFalsely : Prop := fnAcceptsWordRow.holds Try.pinned (OpenSpec.ofChange fnAcceptsWordWrong)

/-- 'laws.FnFindWord': WHATEVER THE INPUT: true; the input reads as it did. -/
def fnFindWordSpec : ChangeSpec := { name := "fnFindWord", fn := fun _ => fun
  | [d] => { results := [.lit (.bool true)], args := [d] }
  | _ => none }
def fnFindWordRow : OpenClaim := { program := "ytkjimmkemnmajaa", sum := "bcc7c6220102f1d07e5ee0b560deed10a32e73aa7807ab72d201136353bec7c7", func := "loop.example/ltlcheck/laws.FnFindWord", spec := "fnFindWord", unfollowed := true, recurses := true, plainKeys := false, apart := false }
def FnFindWordSaid : Prop := fnFindWordRow.holds Try.pinned (OpenSpec.ofChange fnFindWordSpec)

/-- ITS FALSE NEIGHBOUR: 'it returns false'. Refute it at one input. -/
def fnFindWordWrong : ChangeSpec := { name := "fnFindWord", fn := fun _ => fun
  | [d] => { results := [.lit (.bool false)], args := [d] }
  | _ => none }
def FnFindWordWrongFalsely : Prop := fnFindWordRow.holds Try.pinned (OpenSpec.ofChange fnFindWordWrong)

/-- 'laws.FnIntersectAutomata': WHATEVER THE INPUT: true; the input reads as it did. -/
def fnIntersectAutomataSpec : ChangeSpec := { name := "fnIntersectAutomata", fn := fun _ => fun
  | [d1, d2] => { results := [.lit (.bool true)], args := [d1, d2] }
  | _ => none }
def fnIntersectAutomataRow : OpenClaim := { program := "ytkjimmkemnmajaa", sum := "bcc7c6220102f1d07e5ee0b560deed10a32e73aa7807ab72d201136353bec7c7", func := "loop.example/ltlcheck/laws.FnIntersectAutomata", spec := "fnIntersectAutomata", unfollowed := true, recurses := true, plainKeys := false, apart := false }
def FnIntersectAutomataSaid : Prop := fnIntersectAutomataRow.holds Try.pinned (OpenSpec.ofChange fnIntersectAutomataSpec)

/-- ITS FALSE NEIGHBOUR: 'it returns false'. Refute it at one input. -/
def fnIntersectAutomataWrong : ChangeSpec := { name := "fnIntersectAutomata", fn := fun _ => fun
  | [d1, d2] => { results := [.lit (.bool false)], args := [d1, d2] }
  | _ => none }
def FnIntersectAutomataWrongFalsely : Prop := fnIntersectAutomataRow.holds Try.pinned (OpenSpec.ofChange fnIntersectAutomataWrong)

/-- 'laws.FnQuotientGraph': WHATEVER THE INPUT: true; the input reads as it did. -/
def fnQuotientGraphSpec : ChangeSpec := { name := "fnQuotientGraph", fn := fun _ => fun
  | [d] => { results := [.lit (.bool true)], args := [d] }
  | _ => none }
def fnQuotientGraphRow : OpenClaim := { program := "ytkjimmkemnmajaa", sum := "bcc7c6220102f1d07e5ee0b560deed10a32e73aa7807ab72d201136353bec7c7", func := "loop.example/ltlcheck/laws.FnQuotientGraph", spec := "fnQuotientGraph", unfollowed := true, recurses := true, plainKeys := false, apart := false }
def FnQuotientGraphSaid : Prop := fnQuotientGraphRow.holds Try.pinned (OpenSpec.ofChange fnQuotientGraphSpec)

/-- ITS FALSE NEIGHBOUR: 'it returns false'. Refute it at one input. -/
def fnQuotientGraphWrong : ChangeSpec := { name := "fnQuotientGraph", fn := fun _ => fun
  | [d] => { results := [.lit (.bool false)], args := [d] }
  | _ => none }
def FnQuotientGraphWrongFalsely : Prop := fnQuotientGraphRow.holds Try.pinned (OpenSpec.ofChange fnQuotientGraphWrong)

/- THE SECOND FORM. 'bulk': how many values and letters a reading holds, each counted each time it is reached (what is shared counts as often as it is met; a slice's spare places count too). A statement '..UptoSaid' is the law's where the arguments, and the package variables that the reading takes, are together of bulk at most 1048576: NARROWER than '..Said'. Prove '..Said' where nothing that the law and all that it calls make is longer than what came in: it says more and counts as full. Else prove '..UptoSaid'. A law counts once. -/
mutual
def uptoBulk {H : Type} : DataW H → Nat
  | .lit (.string bytes) => bytes.length + 1
  | .lit _ => 1
  | .nil => 1
  | .ptr d => uptoBulk d + 1
  | .slice elems spare => uptoBulkAll elems + uptoBulkAll spare + 1
  | .agg parts => uptoBulkAll parts + 1
  | .iface _ d => uptoBulk d + 1
  | .map entries => uptoBulkEntries entries + 1
  | .held _ => 1
def uptoBulkAll {H : Type} : List (DataW H) → Nat
  | [] => 0
  | d :: r => uptoBulk d + uptoBulkAll r
def uptoBulkEntries {H : Type} : List (Lit × DataW H) → Nat
  | [] => 0
  | x :: r => uptoBulkEntry x + uptoBulkEntries r
def uptoBulkEntry {H : Type} : Lit × DataW H → Nat
  | (.string bytes, d) => bytes.length + uptoBulk d + 1
  | (_, d) => uptoBulk d + 1
 end
def uptoSmall : (H : Type) → List (DataW H) → Bool := fun _ ds => decide (uptoBulkAll ds ≤ 1048576)
def OpenSpec.upto (s : _root_.Go.ChangeSpec) : _root_.Go.OpenSpec := { _root_.Go.OpenSpec.ofChange s with cond := some uptoSmall }

/-- 'laws.FnExactFindWord', WHERE WHAT IT READS IS OF BULK AT MOST 1048576: true; the input reads as it did. -/
def fnExactFindWordUptoRow : OpenClaim := { program := "ytkjimmkemnmajaa", sum := "bcc7c6220102f1d07e5ee0b560deed10a32e73aa7807ab72d201136353bec7c7", func := "loop.example/ltlcheck/laws.FnExactFindWord", spec := "fnExactFindWord", unfollowed := true, recurses := true, plainKeys := false, apart := false, narrowed := true }
def FnExactFindWordUptoSaid : Prop := fnExactFindWordUptoRow.holds Try.pinned (OpenSpec.upto fnExactFindWordSpec)

/-- 'laws.FnExactIntersectAutomata', WHERE WHAT IT READS IS OF BULK AT MOST 1048576: true; the input reads as it did. -/
def fnExactIntersectAutomataUptoRow : OpenClaim := { program := "ytkjimmkemnmajaa", sum := "bcc7c6220102f1d07e5ee0b560deed10a32e73aa7807ab72d201136353bec7c7", func := "loop.example/ltlcheck/laws.FnExactIntersectAutomata", spec := "fnExactIntersectAutomata", unfollowed := true, recurses := true, plainKeys := false, apart := false, narrowed := true }
def FnExactIntersectAutomataUptoSaid : Prop := fnExactIntersectAutomataUptoRow.holds Try.pinned (OpenSpec.upto fnExactIntersectAutomataSpec)

/-- 'laws.FnExactQuotientGraph', WHERE WHAT IT READS IS OF BULK AT MOST 1048576: true; the input reads as it did. -/
def fnExactQuotientGraphUptoRow : OpenClaim := { program := "ytkjimmkemnmajaa", sum := "bcc7c6220102f1d07e5ee0b560deed10a32e73aa7807ab72d201136353bec7c7", func := "loop.example/ltlcheck/laws.FnExactQuotientGraph", spec := "fnExactQuotientGraph", unfollowed := true, recurses := true, plainKeys := false, apart := false, narrowed := true }
def FnExactQuotientGraphUptoSaid : Prop := fnExactQuotientGraphUptoRow.holds Try.pinned (OpenSpec.upto fnExactQuotientGraphSpec)

/-- 'laws.FnExactSystemSame', WHERE WHAT IT READS IS OF BULK AT MOST 1048576: true; the input reads as it did. -/
def fnExactSystemSameUptoRow : OpenClaim := { program := "ytkjimmkemnmajaa", sum := "bcc7c6220102f1d07e5ee0b560deed10a32e73aa7807ab72d201136353bec7c7", func := "loop.example/ltlcheck/laws.FnExactSystemSame", spec := "fnExactSystemSame", unfollowed := true, recurses := true, loops := true, plainKeys := false, apart := false, narrowed := true }
def FnExactSystemSameUptoSaid : Prop := fnExactSystemSameUptoRow.holds Try.pinned (OpenSpec.upto fnExactSystemSameSpec)

/-- 'laws.FnLiveStates', WHERE WHAT IT READS IS OF BULK AT MOST 1048576: true; the input reads as it did. -/
def fnLiveStatesUptoRow : OpenClaim := { program := "ytkjimmkemnmajaa", sum := "bcc7c6220102f1d07e5ee0b560deed10a32e73aa7807ab72d201136353bec7c7", func := "loop.example/ltlcheck/laws.FnLiveStates", spec := "fnLiveStates", unfollowed := true, recurses := true, plainKeys := false, apart := false, narrowed := true }
def FnLiveStatesUptoSaid : Prop := fnLiveStatesUptoRow.holds Try.pinned (OpenSpec.upto fnLiveStatesSpec)

/-- 'laws.FnUniteAutomata', WHERE WHAT IT READS IS OF BULK AT MOST 1048576: true; the input reads as it did. -/
def fnUniteAutomataUptoRow : OpenClaim := { program := "ytkjimmkemnmajaa", sum := "bcc7c6220102f1d07e5ee0b560deed10a32e73aa7807ab72d201136353bec7c7", func := "loop.example/ltlcheck/laws.FnUniteAutomata", spec := "fnUniteAutomata", unfollowed := true, recurses := true, plainKeys := false, apart := false, narrowed := true }
def FnUniteAutomataUptoSaid : Prop := fnUniteAutomataUptoRow.holds Try.pinned (OpenSpec.upto fnUniteAutomataSpec)

/-- 'laws.FnLiveWord', WHERE WHAT IT READS IS OF BULK AT MOST 1048576: true; the input reads as it did. -/
def fnLiveWordUptoRow : OpenClaim := { program := "ytkjimmkemnmajaa", sum := "bcc7c6220102f1d07e5ee0b560deed10a32e73aa7807ab72d201136353bec7c7", func := "loop.example/ltlcheck/laws.FnLiveWord", spec := "fnLiveWord", unfollowed := true, recurses := true, plainKeys := false, apart := false, narrowed := true }
def FnLiveWordUptoSaid : Prop := fnLiveWordUptoRow.holds Try.pinned (OpenSpec.upto fnLiveWordSpec)

/-- 'laws.FnAcceptsSuffix', WHERE WHAT IT READS IS OF BULK AT MOST 1048576: true; the input reads as it did. -/
def fnAcceptsSuffixUptoRow : OpenClaim := { program := "ytkjimmkemnmajaa", sum := "bcc7c6220102f1d07e5ee0b560deed10a32e73aa7807ab72d201136353bec7c7", func := "loop.example/ltlcheck/laws.FnAcceptsSuffix", spec := "fnAcceptsSuffix", unfollowed := true, recurses := true, plainKeys := false, apart := false, narrowed := true }
def FnAcceptsSuffixUptoSaid : Prop := fnAcceptsSuffixUptoRow.holds Try.pinned (OpenSpec.upto fnAcceptsSuffixSpec)

/-- 'laws.FnAcceptsWord', WHERE WHAT IT READS IS OF BULK AT MOST 1048576: true; the input reads as it did. -/
def fnAcceptsWordUptoRow : OpenClaim := { program := "ytkjimmkemnmajaa", sum := "bcc7c6220102f1d07e5ee0b560deed10a32e73aa7807ab72d201136353bec7c7", func := "loop.example/ltlcheck/laws.FnAcceptsWord", spec := "fnAcceptsWord", unfollowed := true, recurses := true, plainKeys := false, apart := false, narrowed := true }
def FnAcceptsWordUptoSaid : Prop := fnAcceptsWordUptoRow.holds Try.pinned (OpenSpec.upto fnAcceptsWordSpec)

/-- 'laws.FnFindWord', WHERE WHAT IT READS IS OF BULK AT MOST 1048576: true; the input reads as it did. -/
def fnFindWordUptoRow : OpenClaim := { program := "ytkjimmkemnmajaa", sum := "bcc7c6220102f1d07e5ee0b560deed10a32e73aa7807ab72d201136353bec7c7", func := "loop.example/ltlcheck/laws.FnFindWord", spec := "fnFindWord", unfollowed := true, recurses := true, plainKeys := false, apart := false, narrowed := true }
def FnFindWordUptoSaid : Prop := fnFindWordUptoRow.holds Try.pinned (OpenSpec.upto fnFindWordSpec)

/-- 'laws.FnIntersectAutomata', WHERE WHAT IT READS IS OF BULK AT MOST 1048576: true; the input reads as it did. -/
def fnIntersectAutomataUptoRow : OpenClaim := { program := "ytkjimmkemnmajaa", sum := "bcc7c6220102f1d07e5ee0b560deed10a32e73aa7807ab72d201136353bec7c7", func := "loop.example/ltlcheck/laws.FnIntersectAutomata", spec := "fnIntersectAutomata", unfollowed := true, recurses := true, plainKeys := false, apart := false, narrowed := true }
def FnIntersectAutomataUptoSaid : Prop := fnIntersectAutomataUptoRow.holds Try.pinned (OpenSpec.upto fnIntersectAutomataSpec)

/-- 'laws.FnQuotientGraph', WHERE WHAT IT READS IS OF BULK AT MOST 1048576: true; the input reads as it did. -/
def fnQuotientGraphUptoRow : OpenClaim := { program := "ytkjimmkemnmajaa", sum := "bcc7c6220102f1d07e5ee0b560deed10a32e73aa7807ab72d201136353bec7c7", func := "loop.example/ltlcheck/laws.FnQuotientGraph", spec := "fnQuotientGraph", unfollowed := true, recurses := true, plainKeys := false, apart := false, narrowed := true }
def FnQuotientGraphUptoSaid : Prop := fnQuotientGraphUptoRow.holds Try.pinned (OpenSpec.upto fnQuotientGraphSpec)

end Rows
end Go.Proofs.Ytkjimmkemnmajaa
