import Derived.Test.YtiilmjojffjhlaaGreatDoorA3
import Derived.Test.YtiilmjojffjhlaaGreatDoorJ10
/-
  impl.cyclic. No conditions.
-/
namespace Go.Proofs.YtiilmjojffjhlaaGreatDoor.Vm
open Go
open List renaming replicate → zrP
noncomputable section
set_option linter.unusedVariables false
set_option linter.unusedSimpArgs false
set_option maxRecDepth 200000

def prtB (xs:List Bool) (k:Nat):List Bool:=xs.take k ++ zrP (xs.length - k) false
@[go_sem] def Γn1:FuncId → Con:=Γa23
theorem Γn1_ok:∀ g,ConOk Tryz.prog g (Γn1 g):=Jn

structure DQ where
  m:List Bool
  td:List Int
  b:Nat
  cp:Nat
  jl:List D
  H:Hp
structure DQm (b5 j5:Nat) (x:DQ):Prop where
  m5:x.H b5 = some (cat cB x.m ++ zrP j5 .any)
  mb:x.H x.b = some (cat cI x.td ++ x.jl)
  nb:¬ x.b = b5
  r1:x.td.length ≤ x.cp
  r2:x.cp ≤ x.td.length + x.jl.length
@[go_sem] def Γn2:FuncId → Con:=Γn1
theorem Γn2_ok:∀ g,ConOk Tryz.prog g (Γn2 g):=Γn1_ok

theorem Ut (l:List D) (i:Nat) (d:D):stSeg l i [d] = l.set i d:=rfl
@[go_sem] def Γn3:FuncId → Con:=Γn2
theorem Γn3_ok:∀ g,ConOk Tryz.prog g (Γn3 g):=Γn2_ok

@[go_sem] def Γn4:FuncId → Con:=Γn3
theorem Γn4_ok:∀ g,ConOk Tryz.prog g (Γn4 g):=Γn3_ok

structure QM5 (b5:Nat) (j5:List D) (x:SQ):Prop where
  m5:x.H b5 = some (cat cB (smP x.s.1) ++ j5)
  mq:x.H x.q = some (cat cI x.s.2 ++ zrP x.j .any)
  n5:¬ x.q = b5
  r1:x.s.2.length ≤ x.cp
  r2:x.cp ≤ x.s.2.length + x.j
@[go_sem] def Γn5:FuncId → Con:=Γn4
theorem Γn5_ok:∀ g,ConOk Tryz.prog g (Γn5 g):=Γn4_ok

structure LQ where
  i:Nat
  m:List Bool
  q:List Int
  b:Nat
  cp:Nat
  j:Nat
  H:Hp
structure LQm (b6 j6:Nat) (x:LQ):Prop where
  m6:x.H b6 = some (cat cB x.m ++ zrP j6 .any)
  mb:x.H x.b = some (cat cI x.q ++ zrP x.j .any)
  nb:¬ x.b = b6
  r1:x.q.length ≤ x.cp
  r2:x.cp ≤ x.q.length + x.j
@[go_sem] def Γn6:FuncId → Con:=Γn5
theorem Zk:∀ g,ConOk Tryz.prog g (Γn6 g):=Γn5_ok
end
end Go.Proofs.YtiilmjojffjhlaaGreatDoor.Vm

