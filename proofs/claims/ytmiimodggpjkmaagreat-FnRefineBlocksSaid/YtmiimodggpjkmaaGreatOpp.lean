/-
  What the whole program is like, each shown apart. No conditions.
-/
import Derived.Test.YtmiimodggpjkmaaGreatOpn
namespace Go.Proofs.YtmiimodggpjkmaaGreat.Vm
open Go
theorem stopsHeard_ok:Tryz.prog.stopsHeard = true:=by kernel_rfl
theorem mayEnter_ok:Tryz.prog.mayEnter = true:=by kernel_rfl
theorem liftsFinal_ok:Tryz.prog.liftsFinal = false:=by kernel_rfl
end Go.Proofs.YtmiimodggpjkmaaGreat.Vm

