/-
  The closure of impl.components: its walk. No conditions.
-/
import Derived.Test.YtnfldmfamnhpcaaDoorJ3
namespace Go.Proofs.YtnfldmfamnhpcaaDoor.Vm
open Go
set_option linter.unusedVariables false
set_option linter.unusedSimpArgs false
set_option maxRecDepth 200000
end Go.Proofs.YtnfldmfamnhpcaaDoor.Vm
