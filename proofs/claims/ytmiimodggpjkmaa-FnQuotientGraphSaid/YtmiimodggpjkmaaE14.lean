/-
  Draws: pairs of states. No conditions.
-/
import Derived.Test.YtmiimodggpjkmaaE13
namespace Go.Proofs.Ytmiimodggpjkmaa.Vm
open Go
set_option linter.unusedVariables false
set_option linter.unusedSimpArgs false
set_option maxRecDepth 200000

theorem cut_len (xs:List UInt8):(zapo xs).length ≤ 2000:=by simp [zapo];omega
noncomputable def Γe28:FuncId → Con:=Γe27
attribute [go_sem] Γe28
theorem Xn:∀ g,ConOk Try.prog g (Γe28 g):=Γe27_ok
end Go.Proofs.Ytmiimodggpjkmaa.Vm

