/-
  Liveness is closed under edges: plain. No conditions.
-/
import Derived.Test.YtkjimmkemnmajaaN9
namespace Go.Proofs.Ytkjimmkemnmajaa.Vm
open Go
set_option linter.unusedVariables false
set_option linter.unusedSimpArgs false
set_option maxRecDepth 200000

theorem nth_appG {α:Type} [Inhabited α] {xs ys:List α} {i:Nat} (h:xs.length ≤ i):nth (xs ++ ys) i = nth ys (i - xs.length):=by
  simp only [nth,List.getD_eq_getElem?_getD];rw [List.getElem?_append_right h]
end Go.Proofs.Ytkjimmkemnmajaa.Vm

