/-
  spec.l7Loop. No conditions.
-/
import Derived.Test.YtnfldmfamnhpcaaN5
namespace Go.Proofs.Ytnfldmfamnhpcaa.Vm
open Go
set_option linter.unusedVariables false
set_option linter.unusedSimpArgs false
set_option maxRecDepth 200000

structure LQ where
  i:Nat
  m:List Bool
  q:List Int
  b:Nat
  cp:Nat
  j:Nat
  H:Hp
structure LQm (b6 j6:Nat) (x:LQ):Prop where
  m6:x.H b6 = some (cat cB x.m ++ List.replicate j6 .any)
  mb:x.H x.b = some (cat cI x.q ++ List.replicate x.j .any)
  nb:¬ x.b = b6
  r1:x.q.length ≤ x.cp
  r2:x.cp ≤ x.q.length + x.j
noncomputable def Γn6:FuncId → Con:=Γn5
attribute [go_sem] Γn6
theorem Zj:∀ g,ConOk Try.prog g (Γn6 g):=Γn5_ok
end Go.Proofs.Ytnfldmfamnhpcaa.Vm

