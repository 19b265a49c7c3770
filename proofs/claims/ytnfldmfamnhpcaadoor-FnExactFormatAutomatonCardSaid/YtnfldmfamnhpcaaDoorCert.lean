/-
  Contracts of the functions over certificates. No conditions but that the slices can be read.
-/
import Derived.Test.YtnfldmfamnhpcaaDoorInts
namespace Go.Proofs.YtnfldmfamnhpcaaDoor
open Go.RowKit Go.Deep

end Go.Proofs.YtnfldmfamnhpcaaDoor
