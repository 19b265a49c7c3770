import Derived.Test.YtiilmjojffjhlaaDoorInts
/-
  Contracts of the functions over structs of two slices of integers (lassos, states). No conditions but that the slices can be read.
-/
namespace Go.Proofs.YtiilmjojffjhlaaDoor
open Go.RowKit Go.Deep

end Go.Proofs.YtiilmjojffjhlaaDoor

/-
  Contracts of the functions on letters and valid lassos. No conditions but that the slices can be read.
-/
namespace Go.Proofs.YtiilmjojffjhlaaDoor
open Go.RowKit Go.Deep

set_option maxHeartbeats 400000 in
theorem in_any (w:World) (n lo hi:Int) :
    Calls Tryd.prog 25 #[.int .i64 n,.int .i64 lo,.int .i64 hi] w fun e w'=>e = .returned (.bool (inR n lo hi)) ∧ w = w':=by
  by_cases h1:n < lo
  · rw [inR_lo h1]
    go_enter Tryd.func25,Tryd.ntmps25
    go_wp2_with fail
    go_ret
    exact ⟨rfl,rfl⟩
  · by_cases h2:hi < n
    · rw [inR_hi h2]
      go_enter Tryd.func25,Tryd.ntmps25
      go_wp2_with fail
      go_ret
      exact ⟨by first | rfl | (simp;omega),rfl⟩
    · rw [inR_yes (by omega) (by omega)]
      go_enter Tryd.func25,Tryd.ntmps25
      go_wp2_with fail
      go_ret
      exact ⟨by first | rfl | (simp;omega),rfl⟩

end Go.Proofs.YtiilmjojffjhlaaDoor

/-
  Contracts of the functions over certificates. No conditions but that the slices can be read.
-/
namespace Go.Proofs.YtiilmjojffjhlaaDoor
open Go.RowKit Go.Deep

end Go.Proofs.YtiilmjojffjhlaaDoor
