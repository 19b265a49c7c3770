import Derived.Test.YtiilmjojffjhlaaGreatDoorKA3
import Derived.Test.YtiilmjojffjhlaaGreatDoorKJ10
/-
  impl.cyclic. No conditions.
-/
namespace Go.Proofs.YtiilmjojffjhlaaGreatDoor.Vm
open Go
set_option linter.unusedVariables false
set_option linter.unusedSimpArgs false
set_option maxRecDepth 200000

def prtB (xs:List Bool) (k:Nat):List Bool:=xs.take k ++ List.replicate (xs.length - k) false
noncomputable def Γn1:FuncId → Con:=Γa23
attribute [go_sem] Γn1
theorem Γn1_ok:∀ g,ConOk Tryz.prog g (Γn1 g):=Zw

structure DQ where
  m:List Bool
  td:List Int
  b:Nat
  cp:Nat
  jl:List D
  H:Hp
structure DQm (b5 j5:Nat) (x:DQ):Prop where
  m5:x.H b5 = some (cat cB x.m ++ List.replicate j5 .any)
  mb:x.H x.b = some (cat cI x.td ++ x.jl)
  nb:¬ x.b = b5
  r1:x.td.length ≤ x.cp
  r2:x.cp ≤ x.td.length + x.jl.length
noncomputable def Γn2:FuncId → Con:=Γn1
attribute [go_sem] Γn2
theorem Γn2_ok:∀ g,ConOk Tryz.prog g (Γn2 g):=Γn1_ok

theorem Va (l:List D) (i:Nat) (d:D):stSeg l i [d] = l.set i d:=rfl
noncomputable def Γn3:FuncId → Con:=Γn2
attribute [go_sem] Γn3
theorem Γn3_ok:∀ g,ConOk Tryz.prog g (Γn3 g):=Γn2_ok
end Go.Proofs.YtiilmjojffjhlaaGreatDoor.Vm

