/-
  Rows in named memory: cells read and written one at a time. No conditions.
-/
import Derived.Test.YtiilmjojffjhlaaGreatDoorKQ1
namespace Go.Proofs.YtiilmjojffjhlaaGreatDoor.Vm
open Go
set_option linter.unusedVariables false
set_option linter.unusedSimpArgs false
set_option maxRecDepth 200000

@[go_sem] theorem row_get {α:Type} [Inhabited α] {f:α → List D} [Wide f 1] {xs:List α} {ys:List D} {k:Nat} (h:k < xs.length):(cat f xs ++ ys).getD k .any = (f (nth xs k)).getD 0 .any:=by
  rw [List.getD_eq_getElem?_getD,List.getElem?_append_left (by rw [Qz];omega),← List.getD_eq_getElem?_getD]
  exact cat_get1 h
@[go_sem] theorem row_set_cI {xs:List Int} {ys:List D} {k:Nat} {v:Int} (h:k < xs.length):stSeg (cat cI xs ++ ys) k [.int .i64 v] = cat cI (xs.set k v) ++ ys:=cat_set1 (f:=cI) h rfl
@[go_sem] theorem row_set_cB {xs:List Bool} {ys:List D} {k:Nat} {v:Bool} (h:k < xs.length):stSeg (cat cB (xs) ++ ys) k [.bool v] = cat cB (xs.set k v) ++ ys:=cat_set1 (f:=cB) h rfl
theorem make_cB (v:Bool) (n:Nat):makeD [.bool v] n = cat cB (List.replicate n v):=by
  rw [zaeq]
  induction n with
  | zero=>rfl
  | succ n ih=>rw [List.replicate_succ,List.replicate_succ,Xx,← ih];rfl
end Go.Proofs.YtiilmjojffjhlaaGreatDoor.Vm

