/-
  Paths; partitions: both ways. No conditions.
-/
import Derived.Test.YtnfldmfamnhpcaaF4
namespace Go.Proofs.Ytnfldmfamnhpcaa.Vm
open Go
noncomputable section
set_option linter.unusedVariables false
set_option linter.unusedSimpArgs false
set_option maxRecDepth 200000

def StepOk (a:List Ints2) (b:List (List Int)) (p:List Int) (i:Nat):Prop:=0 ≤ nth p i ∧ nth p i < a.length ∧ (0 < i → nth p i ∈ nth b (nth p (i - 1)).toNat)
def PathOk (a:List Ints2) (b:List (List Int)) (p:List Int):Prop:=GraphOk a b ∧ 1 ≤ p.length ∧ ∀ i,i < p.length → StepOk a b p i

@[go_sem] def Γ41:FuncId → Con:=Γ40
theorem Γ41_ok:∀ g,ConOk Try.prog g (Γ41 g):=Γ40_ok

@[go_sem] def Γ42:FuncId → Con:=Γ41
theorem Γ42_ok:∀ g,ConOk Try.prog g (Γ42 g):=Γ41_ok

@[go_sem] def Γ43:FuncId → Con:=Γ42
theorem Γ43_ok:∀ g,ConOk Try.prog g (Γ43 g):=Γ42_ok

@[go_sem] def Γ44:FuncId → Con:=Γ43
theorem Γ44_ok:∀ g,ConOk Try.prog g (Γ44 g):=Γ43_ok

@[go_sem] def Γ45:FuncId → Con:=Γ44
theorem Vi:∀ g,ConOk Try.prog g (Γ45 g):=Γ44_ok
end
end Go.Proofs.Ytnfldmfamnhpcaa.Vm

