/-
  spec.l4Components; Components, both ways. No conditions.
-/
import Derived.Test.YtnfldmfamnhpcaaDoorJ6
import Derived.Test.YtnfldmfamnhpcaaDoorJ7
namespace Go.Proofs.YtnfldmfamnhpcaaDoor.Vm
open Go
set_option linter.unusedVariables false
set_option linter.unusedSimpArgs false
set_option maxRecDepth 200000

noncomputable def Γj2:FuncId → Con:=Γj1
attribute [go_sem] Γj2
theorem Γj2_ok:∀ g,ConOk Tryd.prog g (Γj2 g):=Γj1_ok

noncomputable def Γj3:FuncId → Con:=Γj2
attribute [go_sem] Γj3
theorem Γj3_ok:∀ g,ConOk Tryd.prog g (Γj3 g):=Γj2_ok
noncomputable def Γj4:FuncId → Con:=Γj3
attribute [go_sem] Γj4
theorem Γj4_ok:∀ g,ConOk Tryd.prog g (Γj4 g):=Γj3_ok
end Go.Proofs.YtnfldmfamnhpcaaDoor.Vm

