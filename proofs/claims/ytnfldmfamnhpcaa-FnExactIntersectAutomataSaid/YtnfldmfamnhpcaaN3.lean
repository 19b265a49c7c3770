/-
  Successors of an automaton's states, both ways. No conditions.
-/
import Derived.Test.YtnfldmfamnhpcaaN2
namespace Go.Proofs.Ytnfldmfamnhpcaa.Vm
open Go
set_option linter.unusedVariables false
set_option linter.unusedSimpArgs false
set_option maxRecDepth 200000

theorem Vj (l:List D) (i:Nat) (d:D):stSeg l i [d] = l.set i d:=rfl
noncomputable def Γn3:FuncId → Con:=Γn2
attribute [go_sem] Γn3
theorem Γn3_ok:∀ g,ConOk Try.prog g (Γn3 g):=Γn2_ok
end Go.Proofs.Ytnfldmfamnhpcaa.Vm

