/-
  Draws: states. No conditions.
-/
import Derived.Test.YtljncoikoffijaaE11
namespace Go.Proofs.Ytljncoikoffijaa.Vm
open Go
set_option linter.unusedVariables false
set_option linter.unusedSimpArgs false
set_option maxRecDepth 200000

/-- A state, as a struct. -/
def sP (x : List Int × List Int) : D := .st [li cI x.1, li cI x.2]
attribute [go_sem] sP
noncomputable def Γe26 : FuncId → Con := Γe25
attribute [go_sem] Γe26
theorem Γe26_ok : ∀ g, ConOk Try.prog g (Γe26 g) := Γe25_ok
end Go.Proofs.Ytljncoikoffijaa.Vm

