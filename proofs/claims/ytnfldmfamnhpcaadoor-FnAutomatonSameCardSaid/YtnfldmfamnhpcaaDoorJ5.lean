/-
  impl.components: the map that names the numbers, and the loop that writes the names. No program in sight.
-/
import Derived.Test.YtnfldmfamnhpcaaDoorJ4
import Derived.Test.YtnfldmfamnhpcaaDoorJ2
namespace Go.Proofs.YtnfldmfamnhpcaaDoor.Vm
open Go
set_option linter.unusedVariables false
set_option linter.unusedSimpArgs false

end Go.Proofs.YtnfldmfamnhpcaaDoor.Vm

