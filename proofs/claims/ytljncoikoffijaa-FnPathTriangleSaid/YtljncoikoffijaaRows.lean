/-
  NARROWER THAN 'FOR EVERY INPUT', by the rows' own cells (each row's printed sentence says how): FnExactSystemSame: loops.
  DERIVED. THE GIVEN ROWS OF THIS SEAT. 12 by the template 'for every input the law returns true; each argument reads behind the call as it read before'; 0 by the template 'total and deterministic' (their statements: YtljncoikoffijaaTotals.lean).
  GIVEN WITH THE SEED: the statements are not yours to turn. If you find one false, say at which input.
  Laid BY PROGRAM, IN A SANDBOX (cutbox-rows.mjs): the forced cells as the released guide's own fill.sh prints them over the translation 85784a9a57e59108… (all of the seat's roots in one cut). By AI agents, Wed Nov 11 2026. No macro, syntax, notation, axiom, sorry.
-/
import Derived.Test.YtljncoikoffijaaChecked
import GoSem.Claim
import GoSem.ClaimJoined
import GoSem.ClaimMapViews
import Derived.JoinedTies
import Derived.KernelRfl
namespace Go.Proofs.Ytljncoikoffijaa
/- THE CELL 'sum', in the pinned program and in every row, IS THE sha256 OF THE DUMP (.gsa) THAT YtljncoikoffijaaProg.lean LOADS. Nothing in Lean hashes anything: it is a label: what it is worth is what the hold of that sum in a sandbox is worth. -/
noncomputable def Try.pinned : Pinned := { name := "ytljncoikoffijaa", sum := "85784a9a57e591088de8345f917626c255b0f0e74dfc0f0d66194421744db04c", checked := Try.checked }
namespace Rows
def none {H : Type} : Left H := { results := [], args := [] }

/-- 'laws.FnStateSame': WHATEVER THE INPUT: true; the input reads as it did. -/
def fnStateSameSpec : ChangeSpec := { name := "fnStateSame", fn := fun _ => fun
  | [d] => { results := [.lit (.bool true)], args := [d] }
  | _ => none }
def fnStateSameRow : OpenClaim := { program := "ytljncoikoffijaa", sum := "85784a9a57e591088de8345f917626c255b0f0e74dfc0f0d66194421744db04c", func := "loop.example/ltlcheck/laws.FnStateSame", spec := "fnStateSame", recurses := true, apart := false }
def FnStateSameSaid : Prop := fnStateSameRow.holds Try.pinned (OpenSpec.ofChange fnStateSameSpec)

/-- ITS FALSE NEIGHBOUR: 'it returns false'. Refute it at one input. -/
def fnStateSameWrong : ChangeSpec := { name := "fnStateSame", fn := fun _ => fun
  | [d] => { results := [.lit (.bool false)], args := [d] }
  | _ => none }
def FnStateSameWrongFalsely : Prop := fnStateSameRow.holds Try.pinned (OpenSpec.ofChange fnStateSameWrong)

/-- 'laws.FnGraphSame': WHATEVER THE INPUT: true; the input reads as it did. -/
def fnGraphSameSpec : ChangeSpec := { name := "fnGraphSame", fn := fun _ => fun
  | [d] => { results := [.lit (.bool true)], args := [d] }
  | _ => none }
def fnGraphSameRow : OpenClaim := { program := "ytljncoikoffijaa", sum := "85784a9a57e591088de8345f917626c255b0f0e74dfc0f0d66194421744db04c", func := "loop.example/ltlcheck/laws.FnGraphSame", spec := "fnGraphSame", unfollowed := true, recurses := true, apart := false }
def FnGraphSameSaid : Prop := fnGraphSameRow.holds Try.pinned (OpenSpec.ofChange fnGraphSameSpec)

/-- ITS FALSE NEIGHBOUR: 'it returns false'. Refute it at one input. -/
def fnGraphSameWrong : ChangeSpec := { name := "fnGraphSame", fn := fun _ => fun
  | [d] => { results := [.lit (.bool false)], args := [d] }
  | _ => none }
def FnGraphSameWrongFalsely : Prop := fnGraphSameRow.holds Try.pinned (OpenSpec.ofChange fnGraphSameWrong)

/-- 'laws.FnPathValid': WHATEVER THE INPUT: true; the input reads as it did. -/
def fnPathValidSpec : ChangeSpec := { name := "fnPathValid", fn := fun _ => fun
  | [d1, d2] => { results := [.lit (.bool true)], args := [d1, d2] }
  | _ => none }
def fnPathValidRow : OpenClaim := { program := "ytljncoikoffijaa", sum := "85784a9a57e591088de8345f917626c255b0f0e74dfc0f0d66194421744db04c", func := "loop.example/ltlcheck/laws.FnPathValid", spec := "fnPathValid", unfollowed := true, recurses := true, apart := false }
def FnPathValidSaid : Prop := fnPathValidRow.holds Try.pinned (OpenSpec.ofChange fnPathValidSpec)

/-- ITS FALSE NEIGHBOUR: 'it returns false'. Refute it at one input. -/
def fnPathValidWrong : ChangeSpec := { name := "fnPathValid", fn := fun _ => fun
  | [d1, d2] => { results := [.lit (.bool false)], args := [d1, d2] }
  | _ => none }
def FnPathValidWrongFalsely : Prop := fnPathValidRow.holds Try.pinned (OpenSpec.ofChange fnPathValidWrong)

/-- 'laws.FnTraceValid': WHATEVER THE INPUT: true; the input reads as it did. -/
def fnTraceValidSpec : ChangeSpec := { name := "fnTraceValid", fn := fun _ => fun
  | [d] => { results := [.lit (.bool true)], args := [d] }
  | _ => none }
def fnTraceValidRow : OpenClaim := { program := "ytljncoikoffijaa", sum := "85784a9a57e591088de8345f917626c255b0f0e74dfc0f0d66194421744db04c", func := "loop.example/ltlcheck/laws.FnTraceValid", spec := "fnTraceValid", unfollowed := true, recurses := true, apart := false }
def FnTraceValidSaid : Prop := fnTraceValidRow.holds Try.pinned (OpenSpec.ofChange fnTraceValidSpec)

/-- ITS FALSE NEIGHBOUR: 'it returns false'. Refute it at one input. -/
def fnTraceValidWrong : ChangeSpec := { name := "fnTraceValid", fn := fun _ => fun
  | [d] => { results := [.lit (.bool false)], args := [d] }
  | _ => none }
def FnTraceValidWrongFalsely : Prop := fnTraceValidRow.holds Try.pinned (OpenSpec.ofChange fnTraceValidWrong)

/-- 'laws.FnExactSystemSame': WHATEVER THE INPUT: true; the input reads as it did. -/
def fnExactSystemSameSpec : ChangeSpec := { name := "fnExactSystemSame", fn := fun _ => fun
  | [d1, d2] => { results := [.lit (.bool true)], args := [d1, d2] }
  | _ => none }
def fnExactSystemSameRow : OpenClaim := { program := "ytljncoikoffijaa", sum := "85784a9a57e591088de8345f917626c255b0f0e74dfc0f0d66194421744db04c", func := "loop.example/ltlcheck/laws.FnExactSystemSame", spec := "fnExactSystemSame", unfollowed := true, recurses := true, loops := true, apart := false }
def FnExactSystemSameSaid : Prop := fnExactSystemSameRow.holds Try.pinned (OpenSpec.ofChange fnExactSystemSameSpec)

/-- ITS FALSE NEIGHBOUR: 'it returns false'. Refute it at one input. -/
def fnExactSystemSameWrong : ChangeSpec := { name := "fnExactSystemSame", fn := fun _ => fun
  | [d1, d2] => { results := [.lit (.bool false)], args := [d1, d2] }
  | _ => none }
def FnExactSystemSameWrongFalsely : Prop := fnExactSystemSameRow.holds Try.pinned (OpenSpec.ofChange fnExactSystemSameWrong)

/-- 'laws.FnExactShortestPath': WHATEVER THE INPUT: true; the input reads as it did. -/
def fnExactShortestPathSpec : ChangeSpec := { name := "fnExactShortestPath", fn := fun _ => fun
  | [d1, d2, d3] => { results := [.lit (.bool true)], args := [d1, d2, d3] }
  | _ => none }
def fnExactShortestPathRow : OpenClaim := { program := "ytljncoikoffijaa", sum := "85784a9a57e591088de8345f917626c255b0f0e74dfc0f0d66194421744db04c", func := "loop.example/ltlcheck/laws.FnExactShortestPath", spec := "fnExactShortestPath", unfollowed := true, recurses := true, apart := false }
def FnExactShortestPathSaid : Prop := fnExactShortestPathRow.holds Try.pinned (OpenSpec.ofChange fnExactShortestPathSpec)

/-- ITS FALSE NEIGHBOUR: 'it returns false'. Refute it at one input. -/
def fnExactShortestPathWrong : ChangeSpec := { name := "fnExactShortestPath", fn := fun _ => fun
  | [d1, d2, d3] => { results := [.lit (.bool false)], args := [d1, d2, d3] }
  | _ => none }
def FnExactShortestPathWrongFalsely : Prop := fnExactShortestPathRow.holds Try.pinned (OpenSpec.ofChange fnExactShortestPathWrong)

/-- 'laws.FnExactComponents': WHATEVER THE INPUT: true; the input reads as it did. -/
def fnExactComponentsSpec : ChangeSpec := { name := "fnExactComponents", fn := fun _ => fun
  | [d] => { results := [.lit (.bool true)], args := [d] }
  | _ => none }
def fnExactComponentsRow : OpenClaim := { program := "ytljncoikoffijaa", sum := "85784a9a57e591088de8345f917626c255b0f0e74dfc0f0d66194421744db04c", func := "loop.example/ltlcheck/laws.FnExactComponents", spec := "fnExactComponents", unfollowed := true, recurses := true, apart := false }
def FnExactComponentsSaid : Prop := fnExactComponentsRow.holds Try.pinned (OpenSpec.ofChange fnExactComponentsSpec)

/-- ITS FALSE NEIGHBOUR: 'it returns false'. Refute it at one input. -/
def fnExactComponentsWrong : ChangeSpec := { name := "fnExactComponents", fn := fun _ => fun
  | [d] => { results := [.lit (.bool false)], args := [d] }
  | _ => none }
def FnExactComponentsWrongFalsely : Prop := fnExactComponentsRow.holds Try.pinned (OpenSpec.ofChange fnExactComponentsWrong)

/-- 'laws.FnExactQuotientGraph': WHATEVER THE INPUT: true; the input reads as it did. -/
def fnExactQuotientGraphSpec : ChangeSpec := { name := "fnExactQuotientGraph", fn := fun _ => fun
  | [d1, d2] => { results := [.lit (.bool true)], args := [d1, d2] }
  | _ => none }
def fnExactQuotientGraphRow : OpenClaim := { program := "ytljncoikoffijaa", sum := "85784a9a57e591088de8345f917626c255b0f0e74dfc0f0d66194421744db04c", func := "loop.example/ltlcheck/laws.FnExactQuotientGraph", spec := "fnExactQuotientGraph", unfollowed := true, recurses := true, apart := false }
def FnExactQuotientGraphSaid : Prop := fnExactQuotientGraphRow.holds Try.pinned (OpenSpec.ofChange fnExactQuotientGraphSpec)

/-- ITS FALSE NEIGHBOUR: 'it returns false'. Refute it at one input. -/
def fnExactQuotientGraphWrong : ChangeSpec := { name := "fnExactQuotientGraph", fn := fun _ => fun
  | [d1, d2] => { results := [.lit (.bool false)], args := [d1, d2] }
  | _ => none }
def FnExactQuotientGraphWrongFalsely : Prop := fnExactQuotientGraphRow.holds Try.pinned (OpenSpec.ofChange fnExactQuotientGraphWrong)

/-- 'laws.FnExactQuotientTrace': WHATEVER THE INPUT: true; the input reads as it did. -/
def fnExactQuotientTraceSpec : ChangeSpec := { name := "fnExactQuotientTrace", fn := fun _ => fun
  | [d1, d2, d3] => { results := [.lit (.bool true)], args := [d1, d2, d3] }
  | _ => none }
def fnExactQuotientTraceRow : OpenClaim := { program := "ytljncoikoffijaa", sum := "85784a9a57e591088de8345f917626c255b0f0e74dfc0f0d66194421744db04c", func := "loop.example/ltlcheck/laws.FnExactQuotientTrace", spec := "fnExactQuotientTrace", unfollowed := true, recurses := true, apart := false }
def FnExactQuotientTraceSaid : Prop := fnExactQuotientTraceRow.holds Try.pinned (OpenSpec.ofChange fnExactQuotientTraceSpec)

/-- ITS FALSE NEIGHBOUR: 'it returns false'. Refute it at one input. -/
def fnExactQuotientTraceWrong : ChangeSpec := { name := "fnExactQuotientTrace", fn := fun _ => fun
  | [d1, d2, d3] => { results := [.lit (.bool false)], args := [d1, d2, d3] }
  | _ => none }
def FnExactQuotientTraceWrongFalsely : Prop := fnExactQuotientTraceRow.holds Try.pinned (OpenSpec.ofChange fnExactQuotientTraceWrong)

/-- 'laws.FnPathTriangle': WHATEVER THE INPUT: true; the input reads as it did. -/
def fnPathTriangleSpec : ChangeSpec := { name := "fnPathTriangle", fn := fun _ => fun
  | [d1, d2] => { results := [.lit (.bool true)], args := [d1, d2] }
  | _ => none }
def fnPathTriangleRow : OpenClaim := { program := "ytljncoikoffijaa", sum := "85784a9a57e591088de8345f917626c255b0f0e74dfc0f0d66194421744db04c", func := "loop.example/ltlcheck/laws.FnPathTriangle", spec := "fnPathTriangle", unfollowed := true, recurses := true, apart := false }
def FnPathTriangleSaid : Prop := fnPathTriangleRow.holds Try.pinned (OpenSpec.ofChange fnPathTriangleSpec)

/-- ITS FALSE NEIGHBOUR: 'it returns false'. Refute it at one input. -/
def fnPathTriangleWrong : ChangeSpec := { name := "fnPathTriangle", fn := fun _ => fun
  | [d1, d2] => { results := [.lit (.bool false)], args := [d1, d2] }
  | _ => none }
def FnPathTriangleWrongFalsely : Prop := fnPathTriangleRow.holds Try.pinned (OpenSpec.ofChange fnPathTriangleWrong)

/-- 'laws.FnShortestPath': WHATEVER THE INPUT: true; the input reads as it did. -/
def fnShortestPathSpec : ChangeSpec := { name := "fnShortestPath", fn := fun _ => fun
  | [d1, d2] => { results := [.lit (.bool true)], args := [d1, d2] }
  | _ => none }
def fnShortestPathRow : OpenClaim := { program := "ytljncoikoffijaa", sum := "85784a9a57e591088de8345f917626c255b0f0e74dfc0f0d66194421744db04c", func := "loop.example/ltlcheck/laws.FnShortestPath", spec := "fnShortestPath", unfollowed := true, recurses := true, apart := false }
def FnShortestPathSaid : Prop := fnShortestPathRow.holds Try.pinned (OpenSpec.ofChange fnShortestPathSpec)

/-- ITS FALSE NEIGHBOUR: 'it returns false'. Refute it at one input. -/
def fnShortestPathWrong : ChangeSpec := { name := "fnShortestPath", fn := fun _ => fun
  | [d1, d2] => { results := [.lit (.bool false)], args := [d1, d2] }
  | _ => none }
def FnShortestPathWrongFalsely : Prop := fnShortestPathRow.holds Try.pinned (OpenSpec.ofChange fnShortestPathWrong)

/-- 'laws.FnComponents': WHATEVER THE INPUT: true; the input reads as it did. -/
def fnComponentsSpec : ChangeSpec := { name := "fnComponents", fn := fun _ => fun
  | [d1, d2] => { results := [.lit (.bool true)], args := [d1, d2] }
  | _ => none }
def fnComponentsRow : OpenClaim := { program := "ytljncoikoffijaa", sum := "85784a9a57e591088de8345f917626c255b0f0e74dfc0f0d66194421744db04c", func := "loop.example/ltlcheck/laws.FnComponents", spec := "fnComponents", unfollowed := true, recurses := true, apart := false }
def FnComponentsSaid : Prop := fnComponentsRow.holds Try.pinned (OpenSpec.ofChange fnComponentsSpec)

/-- ITS FALSE NEIGHBOUR: 'it returns false'. Refute it at one input. -/
def fnComponentsWrong : ChangeSpec := { name := "fnComponents", fn := fun _ => fun
  | [d1, d2] => { results := [.lit (.bool false)], args := [d1, d2] }
  | _ => none }
def FnComponentsWrongFalsely : Prop := fnComponentsRow.holds Try.pinned (OpenSpec.ofChange fnComponentsWrong)

/- THE SECOND FORM. 'bulk': how many values and letters a reading holds, each counted each time it is reached (what is shared counts as often as it is met; a slice's spare places count too). A statement '..UptoSaid' is the law's where the arguments, and the package variables that the reading takes, are together of bulk at most 1048576: NARROWER than '..Said'. Prove '..Said' where nothing that the law and all that it calls make is longer than what came in: it says more and counts as full. Else prove '..UptoSaid'. A law counts once. -/
mutual
def uptoBulk {H : Type} : DataW H → Nat
  | .lit (.string bytes) => bytes.length + 1
  | .lit _ => 1
  | .nil => 1
  | .ptr d => uptoBulk d + 1
  | .slice elems spare => uptoBulkAll elems + uptoBulkAll spare + 1
  | .agg parts => uptoBulkAll parts + 1
  | .iface _ d => uptoBulk d + 1
  | .map entries => uptoBulkEntries entries + 1
  | .held _ => 1
def uptoBulkAll {H : Type} : List (DataW H) → Nat
  | [] => 0
  | d :: r => uptoBulk d + uptoBulkAll r
def uptoBulkEntries {H : Type} : List (Lit × DataW H) → Nat
  | [] => 0
  | x :: r => uptoBulkEntry x + uptoBulkEntries r
def uptoBulkEntry {H : Type} : Lit × DataW H → Nat
  | (.string bytes, d) => bytes.length + uptoBulk d + 1
  | (_, d) => uptoBulk d + 1
 end
def uptoSmall : (H : Type) → List (DataW H) → Bool := fun _ ds => decide (uptoBulkAll ds ≤ 1048576)
def OpenSpec.upto (s : _root_.Go.ChangeSpec) : _root_.Go.OpenSpec := { _root_.Go.OpenSpec.ofChange s with cond := some uptoSmall }

/-- 'laws.FnStateSame', WHERE WHAT IT READS IS OF BULK AT MOST 1048576: true; the input reads as it did. -/
def fnStateSameUptoRow : OpenClaim := { program := "ytljncoikoffijaa", sum := "85784a9a57e591088de8345f917626c255b0f0e74dfc0f0d66194421744db04c", func := "loop.example/ltlcheck/laws.FnStateSame", spec := "fnStateSame", recurses := true, apart := false, narrowed := true }
def FnStateSameUptoSaid : Prop := fnStateSameUptoRow.holds Try.pinned (OpenSpec.upto fnStateSameSpec)

/-- 'laws.FnGraphSame', WHERE WHAT IT READS IS OF BULK AT MOST 1048576: true; the input reads as it did. -/
def fnGraphSameUptoRow : OpenClaim := { program := "ytljncoikoffijaa", sum := "85784a9a57e591088de8345f917626c255b0f0e74dfc0f0d66194421744db04c", func := "loop.example/ltlcheck/laws.FnGraphSame", spec := "fnGraphSame", unfollowed := true, recurses := true, apart := false, narrowed := true }
def FnGraphSameUptoSaid : Prop := fnGraphSameUptoRow.holds Try.pinned (OpenSpec.upto fnGraphSameSpec)

/-- 'laws.FnPathValid', WHERE WHAT IT READS IS OF BULK AT MOST 1048576: true; the input reads as it did. -/
def fnPathValidUptoRow : OpenClaim := { program := "ytljncoikoffijaa", sum := "85784a9a57e591088de8345f917626c255b0f0e74dfc0f0d66194421744db04c", func := "loop.example/ltlcheck/laws.FnPathValid", spec := "fnPathValid", unfollowed := true, recurses := true, apart := false, narrowed := true }
def FnPathValidUptoSaid : Prop := fnPathValidUptoRow.holds Try.pinned (OpenSpec.upto fnPathValidSpec)

/-- 'laws.FnTraceValid', WHERE WHAT IT READS IS OF BULK AT MOST 1048576: true; the input reads as it did. -/
def fnTraceValidUptoRow : OpenClaim := { program := "ytljncoikoffijaa", sum := "85784a9a57e591088de8345f917626c255b0f0e74dfc0f0d66194421744db04c", func := "loop.example/ltlcheck/laws.FnTraceValid", spec := "fnTraceValid", unfollowed := true, recurses := true, apart := false, narrowed := true }
def FnTraceValidUptoSaid : Prop := fnTraceValidUptoRow.holds Try.pinned (OpenSpec.upto fnTraceValidSpec)

/-- 'laws.FnExactSystemSame', WHERE WHAT IT READS IS OF BULK AT MOST 1048576: true; the input reads as it did. -/
def fnExactSystemSameUptoRow : OpenClaim := { program := "ytljncoikoffijaa", sum := "85784a9a57e591088de8345f917626c255b0f0e74dfc0f0d66194421744db04c", func := "loop.example/ltlcheck/laws.FnExactSystemSame", spec := "fnExactSystemSame", unfollowed := true, recurses := true, loops := true, apart := false, narrowed := true }
def FnExactSystemSameUptoSaid : Prop := fnExactSystemSameUptoRow.holds Try.pinned (OpenSpec.upto fnExactSystemSameSpec)

/-- 'laws.FnExactShortestPath', WHERE WHAT IT READS IS OF BULK AT MOST 1048576: true; the input reads as it did. -/
def fnExactShortestPathUptoRow : OpenClaim := { program := "ytljncoikoffijaa", sum := "85784a9a57e591088de8345f917626c255b0f0e74dfc0f0d66194421744db04c", func := "loop.example/ltlcheck/laws.FnExactShortestPath", spec := "fnExactShortestPath", unfollowed := true, recurses := true, apart := false, narrowed := true }
def FnExactShortestPathUptoSaid : Prop := fnExactShortestPathUptoRow.holds Try.pinned (OpenSpec.upto fnExactShortestPathSpec)

/-- 'laws.FnExactComponents', WHERE WHAT IT READS IS OF BULK AT MOST 1048576: true; the input reads as it did. -/
def fnExactComponentsUptoRow : OpenClaim := { program := "ytljncoikoffijaa", sum := "85784a9a57e591088de8345f917626c255b0f0e74dfc0f0d66194421744db04c", func := "loop.example/ltlcheck/laws.FnExactComponents", spec := "fnExactComponents", unfollowed := true, recurses := true, apart := false, narrowed := true }
def FnExactComponentsUptoSaid : Prop := fnExactComponentsUptoRow.holds Try.pinned (OpenSpec.upto fnExactComponentsSpec)

/-- 'laws.FnExactQuotientGraph', WHERE WHAT IT READS IS OF BULK AT MOST 1048576: true; the input reads as it did. -/
def fnExactQuotientGraphUptoRow : OpenClaim := { program := "ytljncoikoffijaa", sum := "85784a9a57e591088de8345f917626c255b0f0e74dfc0f0d66194421744db04c", func := "loop.example/ltlcheck/laws.FnExactQuotientGraph", spec := "fnExactQuotientGraph", unfollowed := true, recurses := true, apart := false, narrowed := true }
def FnExactQuotientGraphUptoSaid : Prop := fnExactQuotientGraphUptoRow.holds Try.pinned (OpenSpec.upto fnExactQuotientGraphSpec)

/-- 'laws.FnExactQuotientTrace', WHERE WHAT IT READS IS OF BULK AT MOST 1048576: true; the input reads as it did. -/
def fnExactQuotientTraceUptoRow : OpenClaim := { program := "ytljncoikoffijaa", sum := "85784a9a57e591088de8345f917626c255b0f0e74dfc0f0d66194421744db04c", func := "loop.example/ltlcheck/laws.FnExactQuotientTrace", spec := "fnExactQuotientTrace", unfollowed := true, recurses := true, apart := false, narrowed := true }
def FnExactQuotientTraceUptoSaid : Prop := fnExactQuotientTraceUptoRow.holds Try.pinned (OpenSpec.upto fnExactQuotientTraceSpec)

/-- 'laws.FnPathTriangle', WHERE WHAT IT READS IS OF BULK AT MOST 1048576: true; the input reads as it did. -/
def fnPathTriangleUptoRow : OpenClaim := { program := "ytljncoikoffijaa", sum := "85784a9a57e591088de8345f917626c255b0f0e74dfc0f0d66194421744db04c", func := "loop.example/ltlcheck/laws.FnPathTriangle", spec := "fnPathTriangle", unfollowed := true, recurses := true, apart := false, narrowed := true }
def FnPathTriangleUptoSaid : Prop := fnPathTriangleUptoRow.holds Try.pinned (OpenSpec.upto fnPathTriangleSpec)

/-- 'laws.FnShortestPath', WHERE WHAT IT READS IS OF BULK AT MOST 1048576: true; the input reads as it did. -/
def fnShortestPathUptoRow : OpenClaim := { program := "ytljncoikoffijaa", sum := "85784a9a57e591088de8345f917626c255b0f0e74dfc0f0d66194421744db04c", func := "loop.example/ltlcheck/laws.FnShortestPath", spec := "fnShortestPath", unfollowed := true, recurses := true, apart := false, narrowed := true }
def FnShortestPathUptoSaid : Prop := fnShortestPathUptoRow.holds Try.pinned (OpenSpec.upto fnShortestPathSpec)

/-- 'laws.FnComponents', WHERE WHAT IT READS IS OF BULK AT MOST 1048576: true; the input reads as it did. -/
def fnComponentsUptoRow : OpenClaim := { program := "ytljncoikoffijaa", sum := "85784a9a57e591088de8345f917626c255b0f0e74dfc0f0d66194421744db04c", func := "loop.example/ltlcheck/laws.FnComponents", spec := "fnComponents", unfollowed := true, recurses := true, apart := false, narrowed := true }
def FnComponentsUptoSaid : Prop := fnComponentsUptoRow.holds Try.pinned (OpenSpec.upto fnComponentsSpec)

end Rows
end Go.Proofs.Ytljncoikoffijaa
