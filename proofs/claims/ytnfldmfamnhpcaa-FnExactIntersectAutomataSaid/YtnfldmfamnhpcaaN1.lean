/-
  impl.cyclic. No conditions.
-/
import Derived.Test.YtnfldmfamnhpcaaA3
import Derived.Test.YtnfldmfamnhpcaaJ9
namespace Go.Proofs.Ytnfldmfamnhpcaa.Vm
open Go
set_option linter.unusedVariables false
set_option linter.unusedSimpArgs false
set_option maxRecDepth 200000

def prtB (xs:List Bool) (k:Nat):List Bool:=xs.take k ++ List.replicate (xs.length - k) false
noncomputable def Γn1:FuncId → Con:=Γa23
attribute [go_sem] Γn1
theorem Γn1_ok:∀ g,ConOk Try.prog g (Γn1 g):=Γa23_ok
end Go.Proofs.Ytnfldmfamnhpcaa.Vm

