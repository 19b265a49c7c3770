/-
  The nearest goal of a search, plain. No conditions.
-/
import Derived.Test.YtiilmjojffjhlaaGreatDoorRow
import Derived.Test.YtiilmjojffjhlaaGreatDoorJ1
namespace Go.Proofs.YtiilmjojffjhlaaGreatDoor.Vm
open Go
set_option linter.unusedVariables false
set_option linter.unusedSimpArgs false
set_option maxRecDepth 200000

structure SQ where
  k:Nat
  s:PQ
  q:Nat
  cp:Nat
  j:Nat
  H:Hp
def fl (n k:Nat):List Int:=List.replicate k (-2) ++ List.replicate (n - k) 0
end Go.Proofs.YtiilmjojffjhlaaGreatDoor.Vm

