/-
  No cell of these rows narrows 'for every input' (looked for: loops, veiled, ifaces, maps, wideKeys, modest, calm, conditions, laid).
  DERIVED. THE GIVEN ROWS OF THIS SEAT. 11 by the template 'for every input the law returns true; each argument reads behind the call as it read before'; 0 by the template 'total and deterministic' (their statements: YtlbbhkpjjciaiaaTotals.lean).
  GIVEN WITH THE SEED: the statements are not yours to turn. If you find one false, say at which input.
  Laid BY PROGRAM, IN A SANDBOX (cutbox-rows.mjs): the forced cells as the released guide's own fill.sh prints them over the translation 536dee467a826fdb… (all of the seat's roots in one cut). By AI agents, Wed Nov 11 2026. No macro, syntax, notation, axiom, sorry.
-/
import Derived.Test.YtlbbhkpjjciaiaaChecked
import GoSem.Claim
import GoSem.ClaimJoined
import GoSem.ClaimMapViews
import Derived.JoinedTies
import Derived.KernelRfl
namespace Go.Proofs.Ytlbbhkpjjciaiaa
/- THE CELL 'sum', in the pinned program and in every row, IS THE sha256 OF THE DUMP (.gsa) THAT YtlbbhkpjjciaiaaProg.lean LOADS. Nothing in Lean hashes anything: it is a label: what it is worth is what the hold of that sum in a sandbox is worth. -/
noncomputable def Try.pinned : Pinned := { name := "ytlbbhkpjjciaiaa", sum := "536dee467a826fdba3a2b78b9843d7a4697f9832768f32928d7cf35c81050899", checked := Try.checked }
namespace Rows
def none {H : Type} : Left H := { results := [], args := [] }

/-- 'laws.FnExactFormatState': WHATEVER THE INPUT: true; the input reads as it did. -/
def fnExactFormatStateSpec : ChangeSpec := { name := "fnExactFormatState", fn := fun _ => fun
  | [d] => { results := [.lit (.bool true)], args := [d] }
  | _ => none }
def fnExactFormatStateRow : OpenClaim := { program := "ytlbbhkpjjciaiaa", sum := "536dee467a826fdba3a2b78b9843d7a4697f9832768f32928d7cf35c81050899", func := "loop.example/ltlcheck/laws.FnExactFormatState", spec := "fnExactFormatState", inPlace := ["internal/abi.NoEscape"], recurses := true, apart := false }
def FnExactFormatStateSaid : Prop := fnExactFormatStateRow.holds Try.pinned (OpenSpec.ofChange fnExactFormatStateSpec)

/-- ITS FALSE NEIGHBOUR: 'it returns false'. Refute it at one input. -/
def fnExactFormatStateWrong : ChangeSpec := { name := "fnExactFormatState", fn := fun _ => fun
  | [d] => { results := [.lit (.bool false)], args := [d] }
  | _ => none }
def FnExactFormatStateWrongFalsely : Prop := fnExactFormatStateRow.holds Try.pinned (OpenSpec.ofChange fnExactFormatStateWrong)

/-- 'laws.FnLassoSame': WHATEVER THE INPUT: true; the input reads as it did. -/
def fnLassoSameSpec : ChangeSpec := { name := "fnLassoSame", fn := fun _ => fun
  | [d] => { results := [.lit (.bool true)], args := [d] }
  | _ => none }
def fnLassoSameRow : OpenClaim := { program := "ytlbbhkpjjciaiaa", sum := "536dee467a826fdba3a2b78b9843d7a4697f9832768f32928d7cf35c81050899", func := "loop.example/ltlcheck/laws.FnLassoSame", spec := "fnLassoSame", unfollowed := true, recurses := true, apart := false }
def FnLassoSameSaid : Prop := fnLassoSameRow.holds Try.pinned (OpenSpec.ofChange fnLassoSameSpec)

/-- ITS FALSE NEIGHBOUR: 'it returns false'. Refute it at one input. -/
def fnLassoSameWrong : ChangeSpec := { name := "fnLassoSame", fn := fun _ => fun
  | [d] => { results := [.lit (.bool false)], args := [d] }
  | _ => none }
def FnLassoSameWrongFalsely : Prop := fnLassoSameRow.holds Try.pinned (OpenSpec.ofChange fnLassoSameWrong)

/-- 'laws.FnExactFormatLasso': WHATEVER THE INPUT: true; the input reads as it did. -/
def fnExactFormatLassoSpec : ChangeSpec := { name := "fnExactFormatLasso", fn := fun _ => fun
  | [d] => { results := [.lit (.bool true)], args := [d] }
  | _ => none }
def fnExactFormatLassoRow : OpenClaim := { program := "ytlbbhkpjjciaiaa", sum := "536dee467a826fdba3a2b78b9843d7a4697f9832768f32928d7cf35c81050899", func := "loop.example/ltlcheck/laws.FnExactFormatLasso", spec := "fnExactFormatLasso", inPlace := ["internal/abi.NoEscape"], unfollowed := true, recurses := true, apart := false }
def FnExactFormatLassoSaid : Prop := fnExactFormatLassoRow.holds Try.pinned (OpenSpec.ofChange fnExactFormatLassoSpec)

/-- ITS FALSE NEIGHBOUR: 'it returns false'. Refute it at one input. -/
def fnExactFormatLassoWrong : ChangeSpec := { name := "fnExactFormatLasso", fn := fun _ => fun
  | [d] => { results := [.lit (.bool false)], args := [d] }
  | _ => none }
def FnExactFormatLassoWrongFalsely : Prop := fnExactFormatLassoRow.holds Try.pinned (OpenSpec.ofChange fnExactFormatLassoWrong)

/-- 'laws.FnExactSuffixAt': WHATEVER THE INPUT: true; the input reads as it did. -/
def fnExactSuffixAtSpec : ChangeSpec := { name := "fnExactSuffixAt", fn := fun _ => fun
  | [d1, d2] => { results := [.lit (.bool true)], args := [d1, d2] }
  | _ => none }
def fnExactSuffixAtRow : OpenClaim := { program := "ytlbbhkpjjciaiaa", sum := "536dee467a826fdba3a2b78b9843d7a4697f9832768f32928d7cf35c81050899", func := "loop.example/ltlcheck/laws.FnExactSuffixAt", spec := "fnExactSuffixAt", unfollowed := true, recurses := true, apart := false }
def FnExactSuffixAtSaid : Prop := fnExactSuffixAtRow.holds Try.pinned (OpenSpec.ofChange fnExactSuffixAtSpec)

/-- ITS FALSE NEIGHBOUR: 'it returns false'. Refute it at one input. -/
def fnExactSuffixAtWrong : ChangeSpec := { name := "fnExactSuffixAt", fn := fun _ => fun
  | [d1, d2] => { results := [.lit (.bool false)], args := [d1, d2] }
  | _ => none }
def FnExactSuffixAtWrongFalsely : Prop := fnExactSuffixAtRow.holds Try.pinned (OpenSpec.ofChange fnExactSuffixAtWrong)

/-- 'laws.FnSuffixAt': WHATEVER THE INPUT: true; the input reads as it did. -/
def fnSuffixAtSpec : ChangeSpec := { name := "fnSuffixAt", fn := fun _ => fun
  | [d1, d2] => { results := [.lit (.bool true)], args := [d1, d2] }
  | _ => none }
def fnSuffixAtRow : OpenClaim := { program := "ytlbbhkpjjciaiaa", sum := "536dee467a826fdba3a2b78b9843d7a4697f9832768f32928d7cf35c81050899", func := "loop.example/ltlcheck/laws.FnSuffixAt", spec := "fnSuffixAt", unfollowed := true, recurses := true, apart := false }
def FnSuffixAtSaid : Prop := fnSuffixAtRow.holds Try.pinned (OpenSpec.ofChange fnSuffixAtSpec)

/-- ITS FALSE NEIGHBOUR: 'it returns false'. Refute it at one input. -/
def fnSuffixAtWrong : ChangeSpec := { name := "fnSuffixAt", fn := fun _ => fun
  | [d1, d2] => { results := [.lit (.bool false)], args := [d1, d2] }
  | _ => none }
def FnSuffixAtWrongFalsely : Prop := fnSuffixAtRow.holds Try.pinned (OpenSpec.ofChange fnSuffixAtWrong)

/-- 'laws.FnExactSameWord': WHATEVER THE INPUT: true; the input reads as it did. -/
def fnExactSameWordSpec : ChangeSpec := { name := "fnExactSameWord", fn := fun _ => fun
  | [d1, d2] => { results := [.lit (.bool true)], args := [d1, d2] }
  | _ => none }
def fnExactSameWordRow : OpenClaim := { program := "ytlbbhkpjjciaiaa", sum := "536dee467a826fdba3a2b78b9843d7a4697f9832768f32928d7cf35c81050899", func := "loop.example/ltlcheck/laws.FnExactSameWord", spec := "fnExactSameWord", unfollowed := true, recurses := true, apart := false }
def FnExactSameWordSaid : Prop := fnExactSameWordRow.holds Try.pinned (OpenSpec.ofChange fnExactSameWordSpec)

/-- ITS FALSE NEIGHBOUR: 'it returns false'. Refute it at one input. -/
def fnExactSameWordWrong : ChangeSpec := { name := "fnExactSameWord", fn := fun _ => fun
  | [d1, d2] => { results := [.lit (.bool false)], args := [d1, d2] }
  | _ => none }
def FnExactSameWordWrongFalsely : Prop := fnExactSameWordRow.holds Try.pinned (OpenSpec.ofChange fnExactSameWordWrong)

/-- 'laws.FnReduceLasso': WHATEVER THE INPUT: true; the input reads as it did. -/
def fnReduceLassoSpec : ChangeSpec := { name := "fnReduceLasso", fn := fun _ => fun
  | [d] => { results := [.lit (.bool true)], args := [d] }
  | _ => none }
def fnReduceLassoRow : OpenClaim := { program := "ytlbbhkpjjciaiaa", sum := "536dee467a826fdba3a2b78b9843d7a4697f9832768f32928d7cf35c81050899", func := "loop.example/ltlcheck/laws.FnReduceLasso", spec := "fnReduceLasso", unfollowed := true, recurses := true, apart := false }
def FnReduceLassoSaid : Prop := fnReduceLassoRow.holds Try.pinned (OpenSpec.ofChange fnReduceLassoSpec)

/-- ITS FALSE NEIGHBOUR: 'it returns false'. Refute it at one input. -/
def fnReduceLassoWrong : ChangeSpec := { name := "fnReduceLasso", fn := fun _ => fun
  | [d] => { results := [.lit (.bool false)], args := [d] }
  | _ => none }
def FnReduceLassoWrongFalsely : Prop := fnReduceLassoRow.holds Try.pinned (OpenSpec.ofChange fnReduceLassoWrong)

/-- 'laws.FnExactReduceLasso': WHATEVER THE INPUT: true; the input reads as it did. -/
def fnExactReduceLassoSpec : ChangeSpec := { name := "fnExactReduceLasso", fn := fun _ => fun
  | [d] => { results := [.lit (.bool true)], args := [d] }
  | _ => none }
def fnExactReduceLassoRow : OpenClaim := { program := "ytlbbhkpjjciaiaa", sum := "536dee467a826fdba3a2b78b9843d7a4697f9832768f32928d7cf35c81050899", func := "loop.example/ltlcheck/laws.FnExactReduceLasso", spec := "fnExactReduceLasso", unfollowed := true, recurses := true, apart := false }
def FnExactReduceLassoSaid : Prop := fnExactReduceLassoRow.holds Try.pinned (OpenSpec.ofChange fnExactReduceLassoSpec)

/-- ITS FALSE NEIGHBOUR: 'it returns false'. Refute it at one input. -/
def fnExactReduceLassoWrong : ChangeSpec := { name := "fnExactReduceLasso", fn := fun _ => fun
  | [d] => { results := [.lit (.bool false)], args := [d] }
  | _ => none }
def FnExactReduceLassoWrongFalsely : Prop := fnExactReduceLassoRow.holds Try.pinned (OpenSpec.ofChange fnExactReduceLassoWrong)

/-- 'laws.FnSameWord': WHATEVER THE INPUT: true; the input reads as it did. -/
def fnSameWordSpec : ChangeSpec := { name := "fnSameWord", fn := fun _ => fun
  | [d] => { results := [.lit (.bool true)], args := [d] }
  | _ => none }
def fnSameWordRow : OpenClaim := { program := "ytlbbhkpjjciaiaa", sum := "536dee467a826fdba3a2b78b9843d7a4697f9832768f32928d7cf35c81050899", func := "loop.example/ltlcheck/laws.FnSameWord", spec := "fnSameWord", unfollowed := true, recurses := true, apart := false }
def FnSameWordSaid : Prop := fnSameWordRow.holds Try.pinned (OpenSpec.ofChange fnSameWordSpec)

/-- ITS FALSE NEIGHBOUR: 'it returns false'. Refute it at one input. -/
def fnSameWordWrong : ChangeSpec := { name := "fnSameWord", fn := fun _ => fun
  | [d] => { results := [.lit (.bool false)], args := [d] }
  | _ => none }
def FnSameWordWrongFalsely : Prop := fnSameWordRow.holds Try.pinned (OpenSpec.ofChange fnSameWordWrong)

/-- 'laws.FnExactParseLasso': WHATEVER THE INPUT: true; the input reads as it did. -/
def fnExactParseLassoSpec : ChangeSpec := { name := "fnExactParseLasso", fn := fun _ => fun
  | [d] => { results := [.lit (.bool true)], args := [d] }
  | _ => none }
def fnExactParseLassoRow : OpenClaim := { program := "ytlbbhkpjjciaiaa", sum := "536dee467a826fdba3a2b78b9843d7a4697f9832768f32928d7cf35c81050899", func := "loop.example/ltlcheck/laws.FnExactParseLasso", spec := "fnExactParseLasso", inPlace := ["internal/bytealg.IndexByteString", "internal/bytealg.IndexString", "internal/abi.NoEscape"], unfollowed := true, recurses := true, named := ["internal/bytealg.MaxLen"], apart := false }
def FnExactParseLassoSaid : Prop := fnExactParseLassoRow.holds Try.pinned (OpenSpec.ofChange fnExactParseLassoSpec)

/-- ITS FALSE NEIGHBOUR: 'it returns false'. Refute it at one input. -/
def fnExactParseLassoWrong : ChangeSpec := { name := "fnExactParseLasso", fn := fun _ => fun
  | [d] => { results := [.lit (.bool false)], args := [d] }
  | _ => none }
def FnExactParseLassoWrongFalsely : Prop := fnExactParseLassoRow.holds Try.pinned (OpenSpec.ofChange fnExactParseLassoWrong)

/-- 'laws.FnLassoText': WHATEVER THE INPUT: true; the input reads as it did. -/
def fnLassoTextSpec : ChangeSpec := { name := "fnLassoText", fn := fun _ => fun
  | [d1, d2] => { results := [.lit (.bool true)], args := [d1, d2] }
  | _ => none }
def fnLassoTextRow : OpenClaim := { program := "ytlbbhkpjjciaiaa", sum := "536dee467a826fdba3a2b78b9843d7a4697f9832768f32928d7cf35c81050899", func := "loop.example/ltlcheck/laws.FnLassoText", spec := "fnLassoText", inPlace := ["internal/abi.NoEscape", "internal/bytealg.IndexByteString", "internal/bytealg.IndexString"], unfollowed := true, recurses := true, named := ["internal/bytealg.MaxLen"], apart := false }
def FnLassoTextSaid : Prop := fnLassoTextRow.holds Try.pinned (OpenSpec.ofChange fnLassoTextSpec)

/-- ITS FALSE NEIGHBOUR: 'it returns false'. Refute it at one input. -/
def fnLassoTextWrong : ChangeSpec := { name := "fnLassoText", fn := fun _ => fun
  | [d1, d2] => { results := [.lit (.bool false)], args := [d1, d2] }
  | _ => none }
def FnLassoTextWrongFalsely : Prop := fnLassoTextRow.holds Try.pinned (OpenSpec.ofChange fnLassoTextWrong)

/- THE SECOND FORM. 'bulk': how many values and letters a reading holds, each counted each time it is reached (what is shared counts as often as it is met; a slice's spare places count too). A statement '..UptoSaid' is the law's where the arguments, and the package variables that the reading takes, are together of bulk at most 1048576: NARROWER than '..Said'. Prove '..Said' where nothing that the law and all that it calls make is longer than what came in: it says more and counts as full. Else prove '..UptoSaid'. A law counts once. -/
mutual
def uptoBulk {H : Type} : DataW H → Nat
  | .lit (.string bytes) => bytes.length + 1
  | .lit _ => 1
  | .nil => 1
  | .ptr d => uptoBulk d + 1
  | .slice elems spare => uptoBulkAll elems + uptoBulkAll spare + 1
  | .agg parts => uptoBulkAll parts + 1
  | .iface _ d => uptoBulk d + 1
  | .map entries => uptoBulkEntries entries + 1
  | .held _ => 1
def uptoBulkAll {H : Type} : List (DataW H) → Nat
  | [] => 0
  | d :: r => uptoBulk d + uptoBulkAll r
def uptoBulkEntries {H : Type} : List (Lit × DataW H) → Nat
  | [] => 0
  | x :: r => uptoBulkEntry x + uptoBulkEntries r
def uptoBulkEntry {H : Type} : Lit × DataW H → Nat
  | (.string bytes, d) => bytes.length + uptoBulk d + 1
  | (_, d) => uptoBulk d + 1
 end
def uptoSmall : (H : Type) → List (DataW H) → Bool := fun _ ds => decide (uptoBulkAll ds ≤ 1048576)
def OpenSpec.upto (s : _root_.Go.ChangeSpec) : _root_.Go.OpenSpec := { _root_.Go.OpenSpec.ofChange s with cond := some uptoSmall }

/-- 'laws.FnExactFormatState', WHERE WHAT IT READS IS OF BULK AT MOST 1048576: true; the input reads as it did. -/
def fnExactFormatStateUptoRow : OpenClaim := { program := "ytlbbhkpjjciaiaa", sum := "536dee467a826fdba3a2b78b9843d7a4697f9832768f32928d7cf35c81050899", func := "loop.example/ltlcheck/laws.FnExactFormatState", spec := "fnExactFormatState", inPlace := ["internal/abi.NoEscape"], recurses := true, apart := false, narrowed := true }
def FnExactFormatStateUptoSaid : Prop := fnExactFormatStateUptoRow.holds Try.pinned (OpenSpec.upto fnExactFormatStateSpec)

/-- 'laws.FnLassoSame', WHERE WHAT IT READS IS OF BULK AT MOST 1048576: true; the input reads as it did. -/
def fnLassoSameUptoRow : OpenClaim := { program := "ytlbbhkpjjciaiaa", sum := "536dee467a826fdba3a2b78b9843d7a4697f9832768f32928d7cf35c81050899", func := "loop.example/ltlcheck/laws.FnLassoSame", spec := "fnLassoSame", unfollowed := true, recurses := true, apart := false, narrowed := true }
def FnLassoSameUptoSaid : Prop := fnLassoSameUptoRow.holds Try.pinned (OpenSpec.upto fnLassoSameSpec)

/-- 'laws.FnExactFormatLasso', WHERE WHAT IT READS IS OF BULK AT MOST 1048576: true; the input reads as it did. -/
def fnExactFormatLassoUptoRow : OpenClaim := { program := "ytlbbhkpjjciaiaa", sum := "536dee467a826fdba3a2b78b9843d7a4697f9832768f32928d7cf35c81050899", func := "loop.example/ltlcheck/laws.FnExactFormatLasso", spec := "fnExactFormatLasso", inPlace := ["internal/abi.NoEscape"], unfollowed := true, recurses := true, apart := false, narrowed := true }
def FnExactFormatLassoUptoSaid : Prop := fnExactFormatLassoUptoRow.holds Try.pinned (OpenSpec.upto fnExactFormatLassoSpec)

/-- 'laws.FnExactSuffixAt', WHERE WHAT IT READS IS OF BULK AT MOST 1048576: true; the input reads as it did. -/
def fnExactSuffixAtUptoRow : OpenClaim := { program := "ytlbbhkpjjciaiaa", sum := "536dee467a826fdba3a2b78b9843d7a4697f9832768f32928d7cf35c81050899", func := "loop.example/ltlcheck/laws.FnExactSuffixAt", spec := "fnExactSuffixAt", unfollowed := true, recurses := true, apart := false, narrowed := true }
def FnExactSuffixAtUptoSaid : Prop := fnExactSuffixAtUptoRow.holds Try.pinned (OpenSpec.upto fnExactSuffixAtSpec)

/-- 'laws.FnSuffixAt', WHERE WHAT IT READS IS OF BULK AT MOST 1048576: true; the input reads as it did. -/
def fnSuffixAtUptoRow : OpenClaim := { program := "ytlbbhkpjjciaiaa", sum := "536dee467a826fdba3a2b78b9843d7a4697f9832768f32928d7cf35c81050899", func := "loop.example/ltlcheck/laws.FnSuffixAt", spec := "fnSuffixAt", unfollowed := true, recurses := true, apart := false, narrowed := true }
def FnSuffixAtUptoSaid : Prop := fnSuffixAtUptoRow.holds Try.pinned (OpenSpec.upto fnSuffixAtSpec)

/-- 'laws.FnExactSameWord', WHERE WHAT IT READS IS OF BULK AT MOST 1048576: true; the input reads as it did. -/
def fnExactSameWordUptoRow : OpenClaim := { program := "ytlbbhkpjjciaiaa", sum := "536dee467a826fdba3a2b78b9843d7a4697f9832768f32928d7cf35c81050899", func := "loop.example/ltlcheck/laws.FnExactSameWord", spec := "fnExactSameWord", unfollowed := true, recurses := true, apart := false, narrowed := true }
def FnExactSameWordUptoSaid : Prop := fnExactSameWordUptoRow.holds Try.pinned (OpenSpec.upto fnExactSameWordSpec)

/-- 'laws.FnReduceLasso', WHERE WHAT IT READS IS OF BULK AT MOST 1048576: true; the input reads as it did. -/
def fnReduceLassoUptoRow : OpenClaim := { program := "ytlbbhkpjjciaiaa", sum := "536dee467a826fdba3a2b78b9843d7a4697f9832768f32928d7cf35c81050899", func := "loop.example/ltlcheck/laws.FnReduceLasso", spec := "fnReduceLasso", unfollowed := true, recurses := true, apart := false, narrowed := true }
def FnReduceLassoUptoSaid : Prop := fnReduceLassoUptoRow.holds Try.pinned (OpenSpec.upto fnReduceLassoSpec)

/-- 'laws.FnExactReduceLasso', WHERE WHAT IT READS IS OF BULK AT MOST 1048576: true; the input reads as it did. -/
def fnExactReduceLassoUptoRow : OpenClaim := { program := "ytlbbhkpjjciaiaa", sum := "536dee467a826fdba3a2b78b9843d7a4697f9832768f32928d7cf35c81050899", func := "loop.example/ltlcheck/laws.FnExactReduceLasso", spec := "fnExactReduceLasso", unfollowed := true, recurses := true, apart := false, narrowed := true }
def FnExactReduceLassoUptoSaid : Prop := fnExactReduceLassoUptoRow.holds Try.pinned (OpenSpec.upto fnExactReduceLassoSpec)

/-- 'laws.FnSameWord', WHERE WHAT IT READS IS OF BULK AT MOST 1048576: true; the input reads as it did. -/
def fnSameWordUptoRow : OpenClaim := { program := "ytlbbhkpjjciaiaa", sum := "536dee467a826fdba3a2b78b9843d7a4697f9832768f32928d7cf35c81050899", func := "loop.example/ltlcheck/laws.FnSameWord", spec := "fnSameWord", unfollowed := true, recurses := true, apart := false, narrowed := true }
def FnSameWordUptoSaid : Prop := fnSameWordUptoRow.holds Try.pinned (OpenSpec.upto fnSameWordSpec)

/-- 'laws.FnExactParseLasso', WHERE WHAT IT READS IS OF BULK AT MOST 1048576: true; the input reads as it did. -/
def fnExactParseLassoUptoRow : OpenClaim := { program := "ytlbbhkpjjciaiaa", sum := "536dee467a826fdba3a2b78b9843d7a4697f9832768f32928d7cf35c81050899", func := "loop.example/ltlcheck/laws.FnExactParseLasso", spec := "fnExactParseLasso", inPlace := ["internal/bytealg.IndexByteString", "internal/bytealg.IndexString", "internal/abi.NoEscape"], unfollowed := true, recurses := true, named := ["internal/bytealg.MaxLen"], apart := false, narrowed := true }
def FnExactParseLassoUptoSaid : Prop := fnExactParseLassoUptoRow.holds Try.pinned (OpenSpec.upto fnExactParseLassoSpec)

/-- 'laws.FnLassoText', WHERE WHAT IT READS IS OF BULK AT MOST 1048576: true; the input reads as it did. -/
def fnLassoTextUptoRow : OpenClaim := { program := "ytlbbhkpjjciaiaa", sum := "536dee467a826fdba3a2b78b9843d7a4697f9832768f32928d7cf35c81050899", func := "loop.example/ltlcheck/laws.FnLassoText", spec := "fnLassoText", inPlace := ["internal/abi.NoEscape", "internal/bytealg.IndexByteString", "internal/bytealg.IndexString"], unfollowed := true, recurses := true, named := ["internal/bytealg.MaxLen"], apart := false, narrowed := true }
def FnLassoTextUptoSaid : Prop := fnLassoTextUptoRow.holds Try.pinned (OpenSpec.upto fnLassoTextSpec)

end Rows
end Go.Proofs.Ytlbbhkpjjciaiaa
