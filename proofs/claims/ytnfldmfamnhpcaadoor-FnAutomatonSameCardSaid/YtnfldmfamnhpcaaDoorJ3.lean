/-
  The closure of impl.components: one visit. No conditions.
-/
import Derived.Test.YtnfldmfamnhpcaaDoorJ1
import Derived.Test.YtnfldmfamnhpcaaDoorRow
import Derived.Test.YtnfldmfamnhpcaaDoorVm15
namespace Go.Proofs.YtnfldmfamnhpcaaDoor.Vm
open Go
set_option linter.unusedVariables false
set_option linter.unusedSimpArgs false
set_option maxRecDepth 200000
end Go.Proofs.YtnfldmfamnhpcaaDoor.Vm
