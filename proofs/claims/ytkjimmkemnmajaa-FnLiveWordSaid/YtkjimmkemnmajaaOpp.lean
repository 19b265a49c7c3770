/-
  What the whole program is like, each shown apart. No conditions.
-/
import Derived.Test.YtkjimmkemnmajaaOpn
namespace Go.Proofs.Ytkjimmkemnmajaa.Vm
open Go
theorem zajs:Try.prog.stopsHeard = true:=by kernel_rfl
theorem zaph:Try.prog.mayEnter = true:=by kernel_rfl
theorem zaju:Try.prog.liftsFinal = false:=by kernel_rfl
end Go.Proofs.Ytkjimmkemnmajaa.Vm

