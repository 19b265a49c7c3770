/-
  Where the drawing functions' table begins. No conditions.
-/
import Derived.Test.YtljncoikoffijaaSp4
namespace Go.Proofs.Ytljncoikoffijaa.Vm
open Go
noncomputable def Γe0 : FuncId → Con := Γs8
attribute [go_sem] Γe0
theorem Γe0_ok : ∀ g, ConOk Try.prog g (Γe0 g) := Γs8_ok
end Go.Proofs.Ytljncoikoffijaa.Vm

