/-
  NARROWER THAN 'FOR EVERY INPUT', by the rows' own cells (each row's printed sentence says how): FnExactBranchingSame: loops · FnExactExprSame: loops · FnExactFormulaSame: loops · FnExactBranchingValid: loops · FnExactFormulaValid: loops.
  DERIVED. THE GIVEN ROWS OF THIS SEAT. 12 by the template 'for every input the law returns true; each argument reads behind the call as it read before'; 0 by the template 'total and deterministic' (their statements: YtnooaggphajllaaTotals.lean).
  GIVEN WITH THE SEED: the statements are not yours to turn. If you find one false, say at which input.
  Laid BY PROGRAM, IN A SANDBOX (cutbox-rows.mjs): the forced cells as the released guide's own fill.sh prints them over the translation fad685ec81e1cd52… (all of the seat's roots in one cut). By AI agents, Wed Nov 11 2026. No macro, syntax, notation, axiom, sorry.
-/
import Derived.Test.YtnooaggphajllaaChecked
import GoSem.Claim
import GoSem.ClaimJoined
import GoSem.ClaimMapViews
import Derived.JoinedTies
import Derived.KernelRfl
namespace Go.Proofs.Ytnooaggphajllaa
/- THE CELL 'sum', in the pinned program and in every row, IS THE sha256 OF THE DUMP (.gsa) THAT YtnooaggphajllaaProg.lean LOADS. Nothing in Lean hashes anything: it is a label: what it is worth is what the hold of that sum in a sandbox is worth. -/
noncomputable def Try.pinned : Pinned := { name := "ytnooaggphajllaa", sum := "fad685ec81e1cd52d33611a90b675cd605e5fd9a3470e025644b6e6d97d7ece2", checked := Try.checked }
namespace Rows
def none {H : Type} : Left H := { results := [], args := [] }

/-- 'laws.FnExactConstants': WHATEVER THE INPUT: true; the input reads as it did. -/
def fnExactConstantsSpec : ChangeSpec := { name := "fnExactConstants", fn := fun _ => fun
  | [] => { results := [.lit (.bool true)], args := [] }
  | _ => none }
def fnExactConstantsRow : OpenClaim := { program := "ytnooaggphajllaa", sum := "fad685ec81e1cd52d33611a90b675cd605e5fd9a3470e025644b6e6d97d7ece2", func := "loop.example/ltlcheck/laws.FnExactConstants", spec := "fnExactConstants", apart := false }
def FnExactConstantsSaid : Prop := fnExactConstantsRow.holds Try.pinned (OpenSpec.ofChange fnExactConstantsSpec)

/-- ITS FALSE NEIGHBOUR: 'it returns false'. Refute it at one input. -/
def fnExactConstantsWrong : ChangeSpec := { name := "fnExactConstants", fn := fun _ => fun
  | [] => { results := [.lit (.bool false)], args := [] }
  | _ => none }
def FnExactConstantsWrongFalsely : Prop := fnExactConstantsRow.holds Try.pinned (OpenSpec.ofChange fnExactConstantsWrong)

/-- 'laws.FnExactCertificateRank': WHATEVER THE INPUT: true; the input reads as it did. -/
def fnExactCertificateRankSpec : ChangeSpec := { name := "fnExactCertificateRank", fn := fun _ => fun
  | [d] => { results := [.lit (.bool true)], args := [d] }
  | _ => none }
def fnExactCertificateRankRow : OpenClaim := { program := "ytnooaggphajllaa", sum := "fad685ec81e1cd52d33611a90b675cd605e5fd9a3470e025644b6e6d97d7ece2", func := "loop.example/ltlcheck/laws.FnExactCertificateRank", spec := "fnExactCertificateRank", apart := false }
def FnExactCertificateRankSaid : Prop := fnExactCertificateRankRow.holds Try.pinned (OpenSpec.ofChange fnExactCertificateRankSpec)

/-- ITS FALSE NEIGHBOUR: 'it returns false'. Refute it at one input. -/
def fnExactCertificateRankWrong : ChangeSpec := { name := "fnExactCertificateRank", fn := fun _ => fun
  | [d] => { results := [.lit (.bool false)], args := [d] }
  | _ => none }
def FnExactCertificateRankWrongFalsely : Prop := fnExactCertificateRankRow.holds Try.pinned (OpenSpec.ofChange fnExactCertificateRankWrong)

/-- 'laws.FnExactLassoSame': WHATEVER THE INPUT: true; the input reads as it did. -/
def fnExactLassoSameSpec : ChangeSpec := { name := "fnExactLassoSame", fn := fun _ => fun
  | [d1, d2] => { results := [.lit (.bool true)], args := [d1, d2] }
  | _ => none }
def fnExactLassoSameRow : OpenClaim := { program := "ytnooaggphajllaa", sum := "fad685ec81e1cd52d33611a90b675cd605e5fd9a3470e025644b6e6d97d7ece2", func := "loop.example/ltlcheck/laws.FnExactLassoSame", spec := "fnExactLassoSame", apart := false }
def FnExactLassoSameSaid : Prop := fnExactLassoSameRow.holds Try.pinned (OpenSpec.ofChange fnExactLassoSameSpec)

/-- ITS FALSE NEIGHBOUR: 'it returns false'. Refute it at one input. -/
def fnExactLassoSameWrong : ChangeSpec := { name := "fnExactLassoSame", fn := fun _ => fun
  | [d1, d2] => { results := [.lit (.bool false)], args := [d1, d2] }
  | _ => none }
def FnExactLassoSameWrongFalsely : Prop := fnExactLassoSameRow.holds Try.pinned (OpenSpec.ofChange fnExactLassoSameWrong)

/-- 'laws.FnExactStateSame': WHATEVER THE INPUT: true; the input reads as it did. -/
def fnExactStateSameSpec : ChangeSpec := { name := "fnExactStateSame", fn := fun _ => fun
  | [d1, d2] => { results := [.lit (.bool true)], args := [d1, d2] }
  | _ => none }
def fnExactStateSameRow : OpenClaim := { program := "ytnooaggphajllaa", sum := "fad685ec81e1cd52d33611a90b675cd605e5fd9a3470e025644b6e6d97d7ece2", func := "loop.example/ltlcheck/laws.FnExactStateSame", spec := "fnExactStateSame", apart := false }
def FnExactStateSameSaid : Prop := fnExactStateSameRow.holds Try.pinned (OpenSpec.ofChange fnExactStateSameSpec)

/-- ITS FALSE NEIGHBOUR: 'it returns false'. Refute it at one input. -/
def fnExactStateSameWrong : ChangeSpec := { name := "fnExactStateSame", fn := fun _ => fun
  | [d1, d2] => { results := [.lit (.bool false)], args := [d1, d2] }
  | _ => none }
def FnExactStateSameWrongFalsely : Prop := fnExactStateSameRow.holds Try.pinned (OpenSpec.ofChange fnExactStateSameWrong)

/-- 'laws.FnExactLassoValid': WHATEVER THE INPUT: true; the input reads as it did. -/
def fnExactLassoValidSpec : ChangeSpec := { name := "fnExactLassoValid", fn := fun _ => fun
  | [d] => { results := [.lit (.bool true)], args := [d] }
  | _ => none }
def fnExactLassoValidRow : OpenClaim := { program := "ytnooaggphajllaa", sum := "fad685ec81e1cd52d33611a90b675cd605e5fd9a3470e025644b6e6d97d7ece2", func := "loop.example/ltlcheck/laws.FnExactLassoValid", spec := "fnExactLassoValid", unfollowed := true, recurses := true, apart := false }
def FnExactLassoValidSaid : Prop := fnExactLassoValidRow.holds Try.pinned (OpenSpec.ofChange fnExactLassoValidSpec)

/-- ITS FALSE NEIGHBOUR: 'it returns false'. Refute it at one input. -/
def fnExactLassoValidWrong : ChangeSpec := { name := "fnExactLassoValid", fn := fun _ => fun
  | [d] => { results := [.lit (.bool false)], args := [d] }
  | _ => none }
def FnExactLassoValidWrongFalsely : Prop := fnExactLassoValidRow.holds Try.pinned (OpenSpec.ofChange fnExactLassoValidWrong)

/-- 'laws.FnExactBranchingSame': WHATEVER THE INPUT: true; the input reads as it did. -/
def fnExactBranchingSameSpec : ChangeSpec := { name := "fnExactBranchingSame", fn := fun _ => fun
  | [d1, d2] => { results := [.lit (.bool true)], args := [d1, d2] }
  | _ => none }
def fnExactBranchingSameRow : OpenClaim := { program := "ytnooaggphajllaa", sum := "fad685ec81e1cd52d33611a90b675cd605e5fd9a3470e025644b6e6d97d7ece2", func := "loop.example/ltlcheck/laws.FnExactBranchingSame", spec := "fnExactBranchingSame", unfollowed := true, recurses := true, loops := true, apart := false }
def FnExactBranchingSameSaid : Prop := fnExactBranchingSameRow.holds Try.pinned (OpenSpec.ofChange fnExactBranchingSameSpec)

/-- ITS FALSE NEIGHBOUR: 'it returns false'. Refute it at one input. -/
def fnExactBranchingSameWrong : ChangeSpec := { name := "fnExactBranchingSame", fn := fun _ => fun
  | [d1, d2] => { results := [.lit (.bool false)], args := [d1, d2] }
  | _ => none }
def FnExactBranchingSameWrongFalsely : Prop := fnExactBranchingSameRow.holds Try.pinned (OpenSpec.ofChange fnExactBranchingSameWrong)

/-- 'laws.FnExactExprSame': WHATEVER THE INPUT: true; the input reads as it did. -/
def fnExactExprSameSpec : ChangeSpec := { name := "fnExactExprSame", fn := fun _ => fun
  | [d1, d2] => { results := [.lit (.bool true)], args := [d1, d2] }
  | _ => none }
def fnExactExprSameRow : OpenClaim := { program := "ytnooaggphajllaa", sum := "fad685ec81e1cd52d33611a90b675cd605e5fd9a3470e025644b6e6d97d7ece2", func := "loop.example/ltlcheck/laws.FnExactExprSame", spec := "fnExactExprSame", unfollowed := true, recurses := true, loops := true, apart := false }
def FnExactExprSameSaid : Prop := fnExactExprSameRow.holds Try.pinned (OpenSpec.ofChange fnExactExprSameSpec)

/-- ITS FALSE NEIGHBOUR: 'it returns false'. Refute it at one input. -/
def fnExactExprSameWrong : ChangeSpec := { name := "fnExactExprSame", fn := fun _ => fun
  | [d1, d2] => { results := [.lit (.bool false)], args := [d1, d2] }
  | _ => none }
def FnExactExprSameWrongFalsely : Prop := fnExactExprSameRow.holds Try.pinned (OpenSpec.ofChange fnExactExprSameWrong)

/-- 'laws.FnExactFormulaSame': WHATEVER THE INPUT: true; the input reads as it did. -/
def fnExactFormulaSameSpec : ChangeSpec := { name := "fnExactFormulaSame", fn := fun _ => fun
  | [d1, d2] => { results := [.lit (.bool true)], args := [d1, d2] }
  | _ => none }
def fnExactFormulaSameRow : OpenClaim := { program := "ytnooaggphajllaa", sum := "fad685ec81e1cd52d33611a90b675cd605e5fd9a3470e025644b6e6d97d7ece2", func := "loop.example/ltlcheck/laws.FnExactFormulaSame", spec := "fnExactFormulaSame", unfollowed := true, recurses := true, loops := true, apart := false }
def FnExactFormulaSameSaid : Prop := fnExactFormulaSameRow.holds Try.pinned (OpenSpec.ofChange fnExactFormulaSameSpec)

/-- ITS FALSE NEIGHBOUR: 'it returns false'. Refute it at one input. -/
def fnExactFormulaSameWrong : ChangeSpec := { name := "fnExactFormulaSame", fn := fun _ => fun
  | [d1, d2] => { results := [.lit (.bool false)], args := [d1, d2] }
  | _ => none }
def FnExactFormulaSameWrongFalsely : Prop := fnExactFormulaSameRow.holds Try.pinned (OpenSpec.ofChange fnExactFormulaSameWrong)

/-- 'laws.FnExactLetterAt': WHATEVER THE INPUT: true; the input reads as it did. -/
def fnExactLetterAtSpec : ChangeSpec := { name := "fnExactLetterAt", fn := fun _ => fun
  | [d1, d2] => { results := [.lit (.bool true)], args := [d1, d2] }
  | _ => none }
def fnExactLetterAtRow : OpenClaim := { program := "ytnooaggphajllaa", sum := "fad685ec81e1cd52d33611a90b675cd605e5fd9a3470e025644b6e6d97d7ece2", func := "loop.example/ltlcheck/laws.FnExactLetterAt", spec := "fnExactLetterAt", unfollowed := true, recurses := true, apart := false }
def FnExactLetterAtSaid : Prop := fnExactLetterAtRow.holds Try.pinned (OpenSpec.ofChange fnExactLetterAtSpec)

/-- ITS FALSE NEIGHBOUR: 'it returns false'. Refute it at one input. -/
def fnExactLetterAtWrong : ChangeSpec := { name := "fnExactLetterAt", fn := fun _ => fun
  | [d1, d2] => { results := [.lit (.bool false)], args := [d1, d2] }
  | _ => none }
def FnExactLetterAtWrongFalsely : Prop := fnExactLetterAtRow.holds Try.pinned (OpenSpec.ofChange fnExactLetterAtWrong)

/-- 'laws.FnExactFormatState': WHATEVER THE INPUT: true; the input reads as it did. -/
def fnExactFormatStateSpec : ChangeSpec := { name := "fnExactFormatState", fn := fun _ => fun
  | [d] => { results := [.lit (.bool true)], args := [d] }
  | _ => none }
def fnExactFormatStateRow : OpenClaim := { program := "ytnooaggphajllaa", sum := "fad685ec81e1cd52d33611a90b675cd605e5fd9a3470e025644b6e6d97d7ece2", func := "loop.example/ltlcheck/laws.FnExactFormatState", spec := "fnExactFormatState", inPlace := ["internal/abi.NoEscape"], recurses := true, apart := false }
def FnExactFormatStateSaid : Prop := fnExactFormatStateRow.holds Try.pinned (OpenSpec.ofChange fnExactFormatStateSpec)

/-- ITS FALSE NEIGHBOUR: 'it returns false'. Refute it at one input. -/
def fnExactFormatStateWrong : ChangeSpec := { name := "fnExactFormatState", fn := fun _ => fun
  | [d] => { results := [.lit (.bool false)], args := [d] }
  | _ => none }
def FnExactFormatStateWrongFalsely : Prop := fnExactFormatStateRow.holds Try.pinned (OpenSpec.ofChange fnExactFormatStateWrong)

/-- 'laws.FnExactBranchingValid': WHATEVER THE INPUT: true; the input reads as it did. -/
def fnExactBranchingValidSpec : ChangeSpec := { name := "fnExactBranchingValid", fn := fun _ => fun
  | [d] => { results := [.lit (.bool true)], args := [d] }
  | _ => none }
def fnExactBranchingValidRow : OpenClaim := { program := "ytnooaggphajllaa", sum := "fad685ec81e1cd52d33611a90b675cd605e5fd9a3470e025644b6e6d97d7ece2", func := "loop.example/ltlcheck/laws.FnExactBranchingValid", spec := "fnExactBranchingValid", unfollowed := true, recurses := true, loops := true, apart := false }
def FnExactBranchingValidSaid : Prop := fnExactBranchingValidRow.holds Try.pinned (OpenSpec.ofChange fnExactBranchingValidSpec)

/-- ITS FALSE NEIGHBOUR: 'it returns false'. Refute it at one input. -/
def fnExactBranchingValidWrong : ChangeSpec := { name := "fnExactBranchingValid", fn := fun _ => fun
  | [d] => { results := [.lit (.bool false)], args := [d] }
  | _ => none }
def FnExactBranchingValidWrongFalsely : Prop := fnExactBranchingValidRow.holds Try.pinned (OpenSpec.ofChange fnExactBranchingValidWrong)

/-- 'laws.FnExactFormulaValid': WHATEVER THE INPUT: true; the input reads as it did. -/
def fnExactFormulaValidSpec : ChangeSpec := { name := "fnExactFormulaValid", fn := fun _ => fun
  | [d] => { results := [.lit (.bool true)], args := [d] }
  | _ => none }
def fnExactFormulaValidRow : OpenClaim := { program := "ytnooaggphajllaa", sum := "fad685ec81e1cd52d33611a90b675cd605e5fd9a3470e025644b6e6d97d7ece2", func := "loop.example/ltlcheck/laws.FnExactFormulaValid", spec := "fnExactFormulaValid", unfollowed := true, recurses := true, loops := true, apart := false }
def FnExactFormulaValidSaid : Prop := fnExactFormulaValidRow.holds Try.pinned (OpenSpec.ofChange fnExactFormulaValidSpec)

/-- ITS FALSE NEIGHBOUR: 'it returns false'. Refute it at one input. -/
def fnExactFormulaValidWrong : ChangeSpec := { name := "fnExactFormulaValid", fn := fun _ => fun
  | [d] => { results := [.lit (.bool false)], args := [d] }
  | _ => none }
def FnExactFormulaValidWrongFalsely : Prop := fnExactFormulaValidRow.holds Try.pinned (OpenSpec.ofChange fnExactFormulaValidWrong)

/- THE SECOND FORM. 'bulk': how many values and letters a reading holds, each counted each time it is reached (what is shared counts as often as it is met; a slice's spare places count too). A statement '..UptoSaid' is the law's where the arguments, and the package variables that the reading takes, are together of bulk at most 1048576: NARROWER than '..Said'. Prove '..Said' where nothing that the law and all that it calls make is longer than what came in: it says more and counts as full. Else prove '..UptoSaid'. A law counts once. -/
mutual
def uptoBulk {H : Type} : DataW H → Nat
  | .lit (.string bytes) => bytes.length + 1
  | .lit _ => 1
  | .nil => 1
  | .ptr d => uptoBulk d + 1
  | .slice elems spare => uptoBulkAll elems + uptoBulkAll spare + 1
  | .agg parts => uptoBulkAll parts + 1
  | .iface _ d => uptoBulk d + 1
  | .map entries => uptoBulkEntries entries + 1
  | .held _ => 1
def uptoBulkAll {H : Type} : List (DataW H) → Nat
  | [] => 0
  | d :: r => uptoBulk d + uptoBulkAll r
def uptoBulkEntries {H : Type} : List (Lit × DataW H) → Nat
  | [] => 0
  | x :: r => uptoBulkEntry x + uptoBulkEntries r
def uptoBulkEntry {H : Type} : Lit × DataW H → Nat
  | (.string bytes, d) => bytes.length + uptoBulk d + 1
  | (_, d) => uptoBulk d + 1
 end
def uptoSmall : (H : Type) → List (DataW H) → Bool := fun _ ds => decide (uptoBulkAll ds ≤ 1048576)
def OpenSpec.upto (s : _root_.Go.ChangeSpec) : _root_.Go.OpenSpec := { _root_.Go.OpenSpec.ofChange s with cond := some uptoSmall }

/-- 'laws.FnExactConstants', WHERE WHAT IT READS IS OF BULK AT MOST 1048576: true; the input reads as it did. -/
def fnExactConstantsUptoRow : OpenClaim := { program := "ytnooaggphajllaa", sum := "fad685ec81e1cd52d33611a90b675cd605e5fd9a3470e025644b6e6d97d7ece2", func := "loop.example/ltlcheck/laws.FnExactConstants", spec := "fnExactConstants", apart := false, narrowed := true }
def FnExactConstantsUptoSaid : Prop := fnExactConstantsUptoRow.holds Try.pinned (OpenSpec.upto fnExactConstantsSpec)

/-- 'laws.FnExactCertificateRank', WHERE WHAT IT READS IS OF BULK AT MOST 1048576: true; the input reads as it did. -/
def fnExactCertificateRankUptoRow : OpenClaim := { program := "ytnooaggphajllaa", sum := "fad685ec81e1cd52d33611a90b675cd605e5fd9a3470e025644b6e6d97d7ece2", func := "loop.example/ltlcheck/laws.FnExactCertificateRank", spec := "fnExactCertificateRank", apart := false, narrowed := true }
def FnExactCertificateRankUptoSaid : Prop := fnExactCertificateRankUptoRow.holds Try.pinned (OpenSpec.upto fnExactCertificateRankSpec)

/-- 'laws.FnExactLassoSame', WHERE WHAT IT READS IS OF BULK AT MOST 1048576: true; the input reads as it did. -/
def fnExactLassoSameUptoRow : OpenClaim := { program := "ytnooaggphajllaa", sum := "fad685ec81e1cd52d33611a90b675cd605e5fd9a3470e025644b6e6d97d7ece2", func := "loop.example/ltlcheck/laws.FnExactLassoSame", spec := "fnExactLassoSame", apart := false, narrowed := true }
def FnExactLassoSameUptoSaid : Prop := fnExactLassoSameUptoRow.holds Try.pinned (OpenSpec.upto fnExactLassoSameSpec)

/-- 'laws.FnExactStateSame', WHERE WHAT IT READS IS OF BULK AT MOST 1048576: true; the input reads as it did. -/
def fnExactStateSameUptoRow : OpenClaim := { program := "ytnooaggphajllaa", sum := "fad685ec81e1cd52d33611a90b675cd605e5fd9a3470e025644b6e6d97d7ece2", func := "loop.example/ltlcheck/laws.FnExactStateSame", spec := "fnExactStateSame", apart := false, narrowed := true }
def FnExactStateSameUptoSaid : Prop := fnExactStateSameUptoRow.holds Try.pinned (OpenSpec.upto fnExactStateSameSpec)

/-- 'laws.FnExactLassoValid', WHERE WHAT IT READS IS OF BULK AT MOST 1048576: true; the input reads as it did. -/
def fnExactLassoValidUptoRow : OpenClaim := { program := "ytnooaggphajllaa", sum := "fad685ec81e1cd52d33611a90b675cd605e5fd9a3470e025644b6e6d97d7ece2", func := "loop.example/ltlcheck/laws.FnExactLassoValid", spec := "fnExactLassoValid", unfollowed := true, recurses := true, apart := false, narrowed := true }
def FnExactLassoValidUptoSaid : Prop := fnExactLassoValidUptoRow.holds Try.pinned (OpenSpec.upto fnExactLassoValidSpec)

/-- 'laws.FnExactBranchingSame', WHERE WHAT IT READS IS OF BULK AT MOST 1048576: true; the input reads as it did. -/
def fnExactBranchingSameUptoRow : OpenClaim := { program := "ytnooaggphajllaa", sum := "fad685ec81e1cd52d33611a90b675cd605e5fd9a3470e025644b6e6d97d7ece2", func := "loop.example/ltlcheck/laws.FnExactBranchingSame", spec := "fnExactBranchingSame", unfollowed := true, recurses := true, loops := true, apart := false, narrowed := true }
def FnExactBranchingSameUptoSaid : Prop := fnExactBranchingSameUptoRow.holds Try.pinned (OpenSpec.upto fnExactBranchingSameSpec)

/-- 'laws.FnExactExprSame', WHERE WHAT IT READS IS OF BULK AT MOST 1048576: true; the input reads as it did. -/
def fnExactExprSameUptoRow : OpenClaim := { program := "ytnooaggphajllaa", sum := "fad685ec81e1cd52d33611a90b675cd605e5fd9a3470e025644b6e6d97d7ece2", func := "loop.example/ltlcheck/laws.FnExactExprSame", spec := "fnExactExprSame", unfollowed := true, recurses := true, loops := true, apart := false, narrowed := true }
def FnExactExprSameUptoSaid : Prop := fnExactExprSameUptoRow.holds Try.pinned (OpenSpec.upto fnExactExprSameSpec)

/-- 'laws.FnExactFormulaSame', WHERE WHAT IT READS IS OF BULK AT MOST 1048576: true; the input reads as it did. -/
def fnExactFormulaSameUptoRow : OpenClaim := { program := "ytnooaggphajllaa", sum := "fad685ec81e1cd52d33611a90b675cd605e5fd9a3470e025644b6e6d97d7ece2", func := "loop.example/ltlcheck/laws.FnExactFormulaSame", spec := "fnExactFormulaSame", unfollowed := true, recurses := true, loops := true, apart := false, narrowed := true }
def FnExactFormulaSameUptoSaid : Prop := fnExactFormulaSameUptoRow.holds Try.pinned (OpenSpec.upto fnExactFormulaSameSpec)

/-- 'laws.FnExactLetterAt', WHERE WHAT IT READS IS OF BULK AT MOST 1048576: true; the input reads as it did. -/
def fnExactLetterAtUptoRow : OpenClaim := { program := "ytnooaggphajllaa", sum := "fad685ec81e1cd52d33611a90b675cd605e5fd9a3470e025644b6e6d97d7ece2", func := "loop.example/ltlcheck/laws.FnExactLetterAt", spec := "fnExactLetterAt", unfollowed := true, recurses := true, apart := false, narrowed := true }
def FnExactLetterAtUptoSaid : Prop := fnExactLetterAtUptoRow.holds Try.pinned (OpenSpec.upto fnExactLetterAtSpec)

/-- 'laws.FnExactFormatState', WHERE WHAT IT READS IS OF BULK AT MOST 1048576: true; the input reads as it did. -/
def fnExactFormatStateUptoRow : OpenClaim := { program := "ytnooaggphajllaa", sum := "fad685ec81e1cd52d33611a90b675cd605e5fd9a3470e025644b6e6d97d7ece2", func := "loop.example/ltlcheck/laws.FnExactFormatState", spec := "fnExactFormatState", inPlace := ["internal/abi.NoEscape"], recurses := true, apart := false, narrowed := true }
def FnExactFormatStateUptoSaid : Prop := fnExactFormatStateUptoRow.holds Try.pinned (OpenSpec.upto fnExactFormatStateSpec)

/-- 'laws.FnExactBranchingValid', WHERE WHAT IT READS IS OF BULK AT MOST 1048576: true; the input reads as it did. -/
def fnExactBranchingValidUptoRow : OpenClaim := { program := "ytnooaggphajllaa", sum := "fad685ec81e1cd52d33611a90b675cd605e5fd9a3470e025644b6e6d97d7ece2", func := "loop.example/ltlcheck/laws.FnExactBranchingValid", spec := "fnExactBranchingValid", unfollowed := true, recurses := true, loops := true, apart := false, narrowed := true }
def FnExactBranchingValidUptoSaid : Prop := fnExactBranchingValidUptoRow.holds Try.pinned (OpenSpec.upto fnExactBranchingValidSpec)

/-- 'laws.FnExactFormulaValid', WHERE WHAT IT READS IS OF BULK AT MOST 1048576: true; the input reads as it did. -/
def fnExactFormulaValidUptoRow : OpenClaim := { program := "ytnooaggphajllaa", sum := "fad685ec81e1cd52d33611a90b675cd605e5fd9a3470e025644b6e6d97d7ece2", func := "loop.example/ltlcheck/laws.FnExactFormulaValid", spec := "fnExactFormulaValid", unfollowed := true, recurses := true, loops := true, apart := false, narrowed := true }
def FnExactFormulaValidUptoSaid : Prop := fnExactFormulaValidUptoRow.holds Try.pinned (OpenSpec.upto fnExactFormulaValidSpec)

end Rows
end Go.Proofs.Ytnooaggphajllaa
