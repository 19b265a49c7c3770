/-
  Draws: pairs of states. No conditions.
-/
import Derived.Test.YtmiimodggpjkmaaGreatE13
namespace Go.Proofs.YtmiimodggpjkmaaGreat.Vm
open Go
set_option linter.unusedVariables false
set_option linter.unusedSimpArgs false
set_option maxRecDepth 200000

theorem cut_len (xs:List UInt8):(zaol xs).length ≤ 2000:=by simp [zaol];omega
noncomputable def Γe28:FuncId → Con:=Γe27
attribute [go_sem] Γe28
theorem Xn:∀ g,ConOk Tryz.prog g (Γe28 g):=Γe27_ok
end Go.Proofs.YtmiimodggpjkmaaGreat.Vm

