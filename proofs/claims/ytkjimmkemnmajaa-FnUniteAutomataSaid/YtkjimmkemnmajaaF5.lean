/-
  Paths; partitions: both ways. No conditions.
-/
import Derived.Test.YtkjimmkemnmajaaF4
namespace Go.Proofs.Ytkjimmkemnmajaa.Vm
open Go
set_option linter.unusedVariables false
set_option linter.unusedSimpArgs false
set_option maxRecDepth 200000

noncomputable def Γ41 : FuncId → Con := Γ40
attribute [go_sem] Γ41
theorem Γ41_ok : ∀ g, ConOk Try.prog g (Γ41 g) := Γ40_ok

noncomputable def Γ42 : FuncId → Con := Γ41
attribute [go_sem] Γ42
theorem Γ42_ok : ∀ g, ConOk Try.prog g (Γ42 g) := Γ41_ok

noncomputable def Γ43 : FuncId → Con := Γ42
attribute [go_sem] Γ43
theorem Γ43_ok : ∀ g, ConOk Try.prog g (Γ43 g) := Γ42_ok

noncomputable def Γ44 : FuncId → Con := Γ43
attribute [go_sem] Γ44
theorem Γ44_ok : ∀ g, ConOk Try.prog g (Γ44 g) := Γ43_ok

noncomputable def Γ45 : FuncId → Con := Γ44
attribute [go_sem] Γ45
theorem Γ45_ok : ∀ g, ConOk Try.prog g (Γ45 g) := Γ44_ok
end Go.Proofs.Ytkjimmkemnmajaa.Vm

