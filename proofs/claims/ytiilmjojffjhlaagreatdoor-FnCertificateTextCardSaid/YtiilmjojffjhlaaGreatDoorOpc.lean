/-
  From the reading of bytes to an abstract value. Plain lemmas; no conditions.
-/
import Derived.Test.YtiilmjojffjhlaaGreatDoorOpn
import Derived.Test.YtiilmjojffjhlaaGreatDoorE4
namespace Go.Proofs.YtiilmjojffjhlaaGreatDoor.Vm
open Go
open Go.ChangeShapes Go.WideShapes Go.ChangeAt Go.RowKit Go.Deep Go.Joins
set_option linter.unusedVariables false
theorem Opens.byte {P:Program} {t:TypeId} (ht:P.underlying t = some (.int .u8)):Opens P t cY:=fun H enc w fuel cs y h=>by
  obtain ⟨n,rfl,_,hw⟩:=DataW.trod_int ht h
  simp only [Lit.wf,Bool.and_eq_true,decide_eq_true_eq] at hw
  obtain ⟨h1,h2⟩:=hw
  have e1:IntKind.min .u8 = 0:=by decide
  have e2:IntKind.max .u8 = 255:=by decide
  rw [e1] at h1;rw [e2] at h2
  refine ⟨UInt8.ofNat n.toNat,fun μ=>zaub ?_⟩
  have:(UInt8.ofNat n.toNat).toNat = n.toNat:=by rw [UInt8.toNat_ofNat'];omega
  simp only [Rep,this]
  exact ⟨trivial,by congr 1;omega⟩
end Go.Proofs.YtiilmjojffjhlaaGreatDoor.Vm

