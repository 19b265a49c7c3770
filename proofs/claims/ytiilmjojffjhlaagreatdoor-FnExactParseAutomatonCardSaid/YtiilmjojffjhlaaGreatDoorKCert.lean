import Derived.Test.YtiilmjojffjhlaaGreatDoorKInts
/-
  Contracts of the functions over structs of two slices of integers (lassos, states). No conditions but that the slices can be read.
-/
namespace Go.Proofs.YtiilmjojffjhlaaGreatDoor
open Go.RowKit Go.Deep

end Go.Proofs.YtiilmjojffjhlaaGreatDoor

/-
  Contracts of the functions on letters and valid lassos. No conditions but that the slices can be read.
-/
namespace Go.Proofs.YtiilmjojffjhlaaGreatDoor
open Go.RowKit Go.Deep

end Go.Proofs.YtiilmjojffjhlaaGreatDoor

/-
  Contracts of the functions over certificates. No conditions but that the slices can be read.
-/
namespace Go.Proofs.YtiilmjojffjhlaaGreatDoor
open Go.RowKit Go.Deep
end Go.Proofs.YtiilmjojffjhlaaGreatDoor
