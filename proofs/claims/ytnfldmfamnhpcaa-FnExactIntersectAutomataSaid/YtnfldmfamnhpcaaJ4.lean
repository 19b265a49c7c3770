/-
  The closure of impl.components: its walk. No conditions.
-/
import Derived.Test.YtnfldmfamnhpcaaJ3
namespace Go.Proofs.Ytnfldmfamnhpcaa.Vm
open Go
set_option linter.unusedVariables false
set_option linter.unusedSimpArgs false
set_option maxRecDepth 200000

theorem NEs.fresh {m:VN} {sb:Nat} {H:Hp} (hf:H sb = none) (h:∀ x ∈ [m.c1,m.v2,m.b2,m.v3,m.b3,m.v4,m.v6,m.v7,m.b7,m.c8],¬ H x = none):NEs m sb:=by
  have key:∀ x ∈ [m.c1,m.v2,m.b2,m.v3,m.b3,m.v4,m.v6,m.v7,m.b7,m.c8],¬ sb = x ∧ ¬ x = sb:=fun x hx=>⟨by rintro rfl;exact h _ hx hf,by rintro rfl;exact h _ hx hf⟩
  simp only [List.mem_cons,List.not_mem_nil,or_false,forall_eq_or_imp,forall_eq] at key
  unfold NEs
  simp only [key,not_false_eq_true,and_self]
end Go.Proofs.Ytnfldmfamnhpcaa.Vm

