/-
  impl.components: its walk. No conditions.
-/
import Derived.Test.YtnfldmfamnhpcaaDoorJ5
namespace Go.Proofs.YtnfldmfamnhpcaaDoor.Vm
open Go
set_option linter.unusedVariables false
set_option linter.unusedSimpArgs false
set_option maxRecDepth 200000

noncomputable def Γj1:FuncId → Con:=Γs8
attribute [go_sem] Γj1
theorem Γj1_ok:∀ g,ConOk Tryd.prog g (Γj1 g):=Γs8_ok
end Go.Proofs.YtnfldmfamnhpcaaDoor.Vm

