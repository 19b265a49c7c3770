/-
  Lists joined; traces. No conditions.
-/
import Derived.Test.YtmiimodggpjkmaaGreatF5
namespace Go.Proofs.YtmiimodggpjkmaaGreat.Vm
open Go
set_option linter.unusedVariables false
set_option linter.unusedSimpArgs false
set_option maxRecDepth 200000

noncomputable def Γ46:FuncId → Con:=Γ45
attribute [go_sem] Γ46
theorem Γ46_ok:∀ g,ConOk Tryz.prog g (Γ46 g):=Γ45_ok

@[go_sem] theorem makeD_two (x:D):makeD [x] 2 = [x,x]:=by rw [Js];rfl
@[go_sem] theorem is_two (a b:List Int) {n m:Nat} (h1:n = a.length) (h2:m = b.length):Is cL 2 [.list n (cat cI a),.list m (cat cI b)] = True:=by subst h1 h2;exact eq_true ⟨[a,b],rfl,rfl⟩
@[go_sem] theorem de_two (a b:List Int) {n m:Nat} (h1:n = a.length) (h2:m = b.length):de cL [.list n (cat cI a),.list m (cat cI b)] = [a,b]:=by
  subst h1 h2
  have:=Qm (f:=cL) [a,b];exact this
noncomputable def Γ47:FuncId → Con:=Γ46
attribute [go_sem] Γ47
theorem Γ47_ok:∀ g,ConOk Tryz.prog g (Γ47 g):=Γ46_ok

noncomputable def Γ48:FuncId → Con:=Γ47
attribute [go_sem] Γ48
theorem Γ48_ok:∀ g,ConOk Tryz.prog g (Γ48 g):=Γ47_ok

end Go.Proofs.YtmiimodggpjkmaaGreat.Vm

