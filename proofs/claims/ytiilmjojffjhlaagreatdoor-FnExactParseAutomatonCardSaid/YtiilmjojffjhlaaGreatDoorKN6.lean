import Derived.Test.YtiilmjojffjhlaaGreatDoorKN3
/-
  spec.l7Next. No conditions.
-/
namespace Go.Proofs.YtiilmjojffjhlaaGreatDoor.Vm
open Go
set_option linter.unusedVariables false
set_option linter.unusedSimpArgs false
set_option maxRecDepth 200000

noncomputable def Γn4:FuncId → Con:=Γn3
attribute [go_sem] Γn4
theorem Γn4_ok:∀ g,ConOk Tryz.prog g (Γn4 g):=Γn3_ok

structure QM5 (b5:Nat) (j5:List D) (x:SQ):Prop where
  m5:x.H b5 = some (cat cB (smP x.s.1) ++ j5)
  mq:x.H x.q = some (cat cI x.s.2 ++ List.replicate x.j .any)
  n5:¬ x.q = b5
  r1:x.s.2.length ≤ x.cp
  r2:x.cp ≤ x.s.2.length + x.j
noncomputable def Γn5:FuncId → Con:=Γn4
attribute [go_sem] Γn5
theorem Γn5_ok:∀ g,ConOk Tryz.prog g (Γn5 g):=Γn4_ok

structure LQ where
  i:Nat
  m:List Bool
  q:List Int
  b:Nat
  cp:Nat
  j:Nat
  H:Hp
structure LQm (b6 j6:Nat) (x:LQ):Prop where
  m6:x.H b6 = some (cat cB x.m ++ List.replicate j6 .any)
  mb:x.H x.b = some (cat cI x.q ++ List.replicate x.j .any)
  nb:¬ x.b = b6
  r1:x.q.length ≤ x.cp
  r2:x.cp ≤ x.q.length + x.j
noncomputable def Γn6:FuncId → Con:=Γn5
attribute [go_sem] Γn6
theorem Za:∀ g,ConOk Tryz.prog g (Γn6 g):=Γn5_ok
end Go.Proofs.YtiilmjojffjhlaaGreatDoor.Vm

