/-
  spec.l7Reach. No conditions.
-/
import Derived.Test.YtnfldmfamnhpcaaN4
namespace Go.Proofs.Ytnfldmfamnhpcaa.Vm
open Go
set_option linter.unusedVariables false
set_option linter.unusedSimpArgs false
set_option maxRecDepth 200000

structure QM5 (b5:Nat) (j5:List D) (x:SQ):Prop where
  m5:x.H b5 = some (cat cB (smP x.s.1) ++ j5)
  mq:x.H x.q = some (cat cI x.s.2 ++ List.replicate x.j .any)
  n5:¬ x.q = b5
  r1:x.s.2.length ≤ x.cp
  r2:x.cp ≤ x.s.2.length + x.j
noncomputable def Γn5:FuncId → Con:=Γn4
attribute [go_sem] Γn5
theorem Γn5_ok:∀ g,ConOk Try.prog g (Γn5 g):=Γn4_ok
end Go.Proofs.Ytnfldmfamnhpcaa.Vm

