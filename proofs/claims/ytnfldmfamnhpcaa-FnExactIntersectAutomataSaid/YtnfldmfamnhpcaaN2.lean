/-
  impl.reachable. No conditions.
-/
import Derived.Test.YtnfldmfamnhpcaaN1
namespace Go.Proofs.Ytnfldmfamnhpcaa.Vm
open Go
set_option linter.unusedVariables false
set_option linter.unusedSimpArgs false
set_option maxRecDepth 200000

structure DQ where
  m:List Bool
  td:List Int
  b:Nat
  cp:Nat
  jl:List D
  H:Hp
structure DQm (b5 j5:Nat) (x:DQ):Prop where
  m5:x.H b5 = some (cat cB x.m ++ List.replicate j5 .any)
  mb:x.H x.b = some (cat cI x.td ++ x.jl)
  nb:¬ x.b = b5
  r1:x.td.length ≤ x.cp
  r2:x.cp ≤ x.td.length + x.jl.length
noncomputable def Γn2:FuncId → Con:=Γn1
attribute [go_sem] Γn2
theorem Γn2_ok:∀ g,ConOk Try.prog g (Γn2 g):=Γn1_ok
end Go.Proofs.Ytnfldmfamnhpcaa.Vm

