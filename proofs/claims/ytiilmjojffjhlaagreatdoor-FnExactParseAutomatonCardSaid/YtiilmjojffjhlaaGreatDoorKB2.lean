/-
  The nearest goal of a search, plain. No conditions.
-/
import Derived.Test.YtiilmjojffjhlaaGreatDoorKRow
import Derived.Test.YtiilmjojffjhlaaGreatDoorKJ1
namespace Go.Proofs.YtiilmjojffjhlaaGreatDoor.Vm
open Go
set_option linter.unusedVariables false
set_option linter.unusedSimpArgs false
set_option maxRecDepth 200000

structure SQ where
  k:Nat
  s:PQ
  q:Nat
  cp:Nat
  j:Nat
  H:Hp
structure QM1 (b7:Nat) (j7:List D) (x:SQ):Prop where
  m7:x.H b7 = some (cat cI x.s.1 ++ j7)
  mq:x.H x.q = some (cat cI x.s.2 ++ List.replicate x.j .any)
  n7:¬ x.q = b7
  r1:x.s.2.length ≤ x.cp
  r2:x.cp ≤ x.s.2.length + x.j
def fl (n k:Nat):List Int:=List.replicate k (-2) ++ List.replicate (n - k) 0
end Go.Proofs.YtiilmjojffjhlaaGreatDoor.Vm

