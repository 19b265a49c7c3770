/-
  What the whole program is like, each shown apart. No conditions.
-/
import Derived.Test.YtnfldmfamnhpcaaOpn
namespace Go.Proofs.Ytnfldmfamnhpcaa.Vm
open Go
theorem stopsHeard_ok:Try.prog.stopsHeard = true:=by kernel_rfl
theorem mayEnter_ok:Try.prog.mayEnter = true:=by kernel_rfl
theorem liftsFinal_ok:Try.prog.liftsFinal = false:=by kernel_rfl
end Go.Proofs.Ytnfldmfamnhpcaa.Vm

