/-
  impl.shortest; ShortestPath, both ways. No conditions.
-/
import Derived.Test.YtkjimmkemnmajaaSp2
namespace Go.Proofs.Ytkjimmkemnmajaa.Vm
open Go
set_option linter.unusedVariables false
set_option linter.unusedSimpArgs false
set_option maxRecDepth 200000

noncomputable def Γs5:FuncId → Con:=Γs4
attribute [go_sem] Γs5
theorem Γs5_ok:∀ g,ConOk Try.prog g (Γs5 g):=Γs4_ok
end Go.Proofs.Ytkjimmkemnmajaa.Vm

