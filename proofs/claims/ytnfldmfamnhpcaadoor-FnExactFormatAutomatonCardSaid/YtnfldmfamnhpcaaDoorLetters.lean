/-
  Contracts of the functions on letters and valid lassos. No conditions but that the slices can be read.
-/
import Derived.Test.YtnfldmfamnhpcaaDoorPair
namespace Go.Proofs.YtnfldmfamnhpcaaDoor
open Go.RowKit Go.Deep

end Go.Proofs.YtnfldmfamnhpcaaDoor

