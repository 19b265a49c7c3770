import Derived.Test.YtiilmjojffjhlaaGreatDoorJ1
import Derived.Test.YtiilmjojffjhlaaGreatDoorRow
import Derived.Test.YtiilmjojffjhlaaGreatDoorVm15
/-
  The closure of impl.components: one visit. No conditions.
-/
namespace Go.Proofs.YtiilmjojffjhlaaGreatDoor.Vm
open Go
set_option linter.unusedVariables false
set_option linter.unusedSimpArgs false
set_option maxRecDepth 200000
end Go.Proofs.YtiilmjojffjhlaaGreatDoor.Vm
