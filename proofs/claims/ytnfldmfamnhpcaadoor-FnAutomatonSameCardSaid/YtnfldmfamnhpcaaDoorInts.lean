/-
  Contracts of the functions over slices of integers. No conditions but that the slices can be read.
-/
import Derived.Test.YtnfldmfamnhpcaaDoorRows
import Derived.Test.YtnfldmfamnhpcaaDoorLib
namespace Go.Proofs.YtnfldmfamnhpcaaDoor
open Go.RowKit Go.Deep

end Go.Proofs.YtnfldmfamnhpcaaDoor

