/-
  LiveStates, both ways. No conditions.
-/
import Derived.Test.YtnfldmfamnhpcaaN8
namespace Go.Proofs.Ytnfldmfamnhpcaa.Vm
open Go
set_option linter.unusedVariables false
set_option linter.unusedSimpArgs false
set_option maxRecDepth 200000

theorem AutOk.rng {a:List Int} {n:Nat} {c:List Tr4} (h:AutOk a n c):InRng n c:=fun i hi=>by
  obtain ⟨g1,g2,g3,g4,_⟩:=h.2.2.2.2 i hi
  exact ⟨⟨g1,g2⟩,g3,g4⟩
noncomputable def Γn12:FuncId → Con:=Γn11
attribute [go_sem] Γn12
theorem Γn12_ok:∀ g,ConOk Try.prog g (Γn12 g):=Γn11_ok

noncomputable def Γn13:FuncId → Con:=Γn12
attribute [go_sem] Γn13
theorem Γn13_ok:∀ g,ConOk Try.prog g (Γn13 g):=Γn12_ok
end Go.Proofs.Ytnfldmfamnhpcaa.Vm

