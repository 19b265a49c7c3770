/-
  Refining ends: plain. No conditions.
-/
import Derived.Test.YtmiimodggpjkmaaRA
namespace Go.Proofs.Ytmiimodggpjkmaa.Vm
open Go
set_option linter.unusedVariables false
set_option linter.unusedSimpArgs false
set_option maxRecDepth 200000

end Go.Proofs.Ytmiimodggpjkmaa.Vm

