/-
  Draws: states changed; pairs of states. No conditions.
-/
import Derived.Test.YtljncoikoffijaaE12
namespace Go.Proofs.Ytljncoikoffijaa.Vm
open Go
set_option linter.unusedVariables false
set_option linter.unusedSimpArgs false
set_option maxRecDepth 200000

noncomputable def Γe27 : FuncId → Con := Γe26
attribute [go_sem] Γe27
theorem Γe27_ok : ∀ g, ConOk Try.prog g (Γe27 g) := Γe26_ok
end Go.Proofs.Ytljncoikoffijaa.Vm

