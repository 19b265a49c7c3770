/-
  Contracts of the functions over slices of integers. No conditions but that the slices can be read.
-/
import Derived.Test.YtiilmjojffjhlaaDoorRows
import Derived.Test.YtiilmjojffjhlaaDoorLib
namespace Go.Proofs.YtiilmjojffjhlaaDoor
open Go.RowKit Go.Deep

theorem infoInt:(Tryd.prog.info? 3).map (fun i=>(i.zero,i.size,i.bytes)) = some (some (.int .i64 0),1,8):=by kernel_rfl

end Go.Proofs.YtiilmjojffjhlaaDoor
