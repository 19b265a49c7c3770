/-
  FnExactShortestPath: the walk of the law. No conditions.
-/
import Derived.Test.YtkjimmkemnmajaaSp4
namespace Go.Proofs.Ytkjimmkemnmajaa.Vm
open Go
set_option linter.unusedVariables false
set_option linter.unusedSimpArgs false
set_option maxRecDepth 200000

end Go.Proofs.Ytkjimmkemnmajaa.Vm

