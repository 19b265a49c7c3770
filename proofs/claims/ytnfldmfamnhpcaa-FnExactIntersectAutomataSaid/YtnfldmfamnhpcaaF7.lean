/-
  Traces. No conditions.
-/
import Derived.Test.YtnfldmfamnhpcaaF6
namespace Go.Proofs.Ytnfldmfamnhpcaa.Vm
open Go
set_option linter.unusedVariables false
set_option linter.unusedSimpArgs false
set_option maxRecDepth 200000

noncomputable def Γ49:FuncId → Con:=Γ48
attribute [go_sem] Γ49
theorem Γ49_ok:∀ g,ConOk Try.prog g (Γ49 g):=Γ48_ok

noncomputable def Γ50:FuncId → Con:=Γ49
attribute [go_sem] Γ50
theorem Γ50_ok:∀ g,ConOk Try.prog g (Γ50 g):=Γ49_ok
end Go.Proofs.Ytnfldmfamnhpcaa.Vm

