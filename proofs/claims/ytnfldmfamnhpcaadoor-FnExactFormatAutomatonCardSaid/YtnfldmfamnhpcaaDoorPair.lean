/-
  Contracts of the functions over structs of two slices of integers (lassos, states). No conditions but that the slices can be read.
-/
import Derived.Test.YtnfldmfamnhpcaaDoorInts
namespace Go.Proofs.YtnfldmfamnhpcaaDoor
open Go.RowKit Go.Deep

end Go.Proofs.YtnfldmfamnhpcaaDoor

