/-
  What the whole program is like, each shown apart. No conditions.
-/
import Derived.Test.YtkjimmkemnmajaaOpn
namespace Go.Proofs.Ytkjimmkemnmajaa.Vm
open Go
theorem zakc : Try.prog.stopsHeard = true := by kernel_rfl
theorem zapm : Try.prog.mayEnter = true := by kernel_rfl
theorem zake : Try.prog.liftsFinal = false := by kernel_rfl
end Go.Proofs.Ytkjimmkemnmajaa.Vm

