/-
  Contracts of the functions over slices of integers. No conditions but that the slices can be read.
-/
import Derived.Test.YtiilmjojffjhlaaGreatDoorRows
import Derived.Test.YtiilmjojffjhlaaGreatDoorKLib
namespace Go.Proofs.YtiilmjojffjhlaaGreatDoor
open Go.RowKit Go.Deep

theorem infoInt:(Tryz.prog.info? 3).map (fun i=>(i.zero,i.size,i.bytes)) = some (some (.int .i64 0),1,8):=by kernel_rfl

end Go.Proofs.YtiilmjojffjhlaaGreatDoor
