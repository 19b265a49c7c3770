import Derived.Test.YtiilmjojffjhlaaGreatDoorKJ1
import Derived.Test.YtiilmjojffjhlaaGreatDoorKRow
import Derived.Test.YtiilmjojffjhlaaGreatDoorKVm15
/-
  The closure of impl.components: one visit. No conditions.
-/
namespace Go.Proofs.YtiilmjojffjhlaaGreatDoor.Vm
open Go
set_option linter.unusedVariables false
set_option linter.unusedSimpArgs false
set_option maxRecDepth 200000
end Go.Proofs.YtiilmjojffjhlaaGreatDoor.Vm
