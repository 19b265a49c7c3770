/-
  ShortestPath, both ways. No conditions.
-/
import Derived.Test.YtkjimmkemnmajaaSp3
namespace Go.Proofs.Ytkjimmkemnmajaa.Vm
open Go
set_option linter.unusedVariables false
set_option linter.unusedSimpArgs false
set_option maxRecDepth 200000

theorem GraphOk.next {a:List Ints2} {b:List (List Int)} (h:GraphOk a b):NextOk b ∧ NextS b ∧ b.length = a.length ∧ a.length ≤ 60 ∧ b.length ≤ 1048576:=by
  obtain ⟨g1,g2,g3,g4,g5⟩:=h
  refine ⟨fun j hj k hk=>?_,fun j hj=>?_,g3,g2,by omega⟩
  · have:=(g5 j hj).2 k hk
    omega
  · have:=(g5 j hj).2.len
    omega
noncomputable def Γs6:FuncId → Con:=Γs5
attribute [go_sem] Γs6
theorem Γs6_ok:∀ g,ConOk Try.prog g (Γs6 g):=Γs5_ok

noncomputable def Γs7:FuncId → Con:=Γs6
attribute [go_sem] Γs7
theorem Γs7_ok:∀ g,ConOk Try.prog g (Γs7 g):=Γs6_ok

noncomputable def Γs8:FuncId → Con:=Γs7
attribute [go_sem] Γs8
theorem Γs8_ok:∀ g,ConOk Try.prog g (Γs8 g):=Γs7_ok
end Go.Proofs.Ytkjimmkemnmajaa.Vm

