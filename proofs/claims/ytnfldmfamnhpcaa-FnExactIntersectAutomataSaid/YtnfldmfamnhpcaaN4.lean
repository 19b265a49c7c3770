/-
  spec.l7Next. No conditions.
-/
import Derived.Test.YtnfldmfamnhpcaaN3
namespace Go.Proofs.Ytnfldmfamnhpcaa.Vm
open Go
set_option linter.unusedVariables false
set_option linter.unusedSimpArgs false
set_option maxRecDepth 200000

noncomputable def Γn4:FuncId → Con:=Γn3
attribute [go_sem] Γn4
theorem Γn4_ok:∀ g,ConOk Try.prog g (Γn4 g):=Γn3_ok
end Go.Proofs.Ytnfldmfamnhpcaa.Vm

