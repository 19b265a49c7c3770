import Derived.Test.YtmiimodggpjkmaaGreatE11
/-
  Draws: states. No conditions.
-/
namespace Go.Proofs.YtmiimodggpjkmaaGreat.Vm
open Go
set_option linter.unusedVariables false
set_option linter.unusedSimpArgs false
set_option maxRecDepth 200000

noncomputable def Γe26:FuncId → Con:=Γe25
attribute [go_sem] Γe26
theorem Γe26_ok:∀ g,ConOk Tryz.prog g (Γe26 g):=Γe25_ok

noncomputable def Γe27:FuncId → Con:=Γe26
attribute [go_sem] Γe27
theorem Γe27_ok:∀ g,ConOk Tryz.prog g (Γe27 g):=Γe26_ok
end Go.Proofs.YtmiimodggpjkmaaGreat.Vm

