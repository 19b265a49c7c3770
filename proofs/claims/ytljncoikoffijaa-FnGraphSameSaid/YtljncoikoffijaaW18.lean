/-
  FnGraphSame: the walk of the law. No conditions.
-/
import Derived.Test.YtljncoikoffijaaE19
namespace Go.Proofs.Ytljncoikoffijaa.Vm
open Go
set_option linter.unusedVariables false
set_option linter.unusedSimpArgs false
set_option maxRecDepth 200000

set_option maxHeartbeats 4000000 in
theorem lawFnGraphSame (xs : List UInt8)  : Pure Try.prog 4 [li cY xs] (.bool true) := by
  refine Pure.of_walk Try.func4 rfl (by simp [Try.f4]) (by simp [-List.drop_one, go_sem]) fun B hK => ?_
  (repeat' (first
    | refine AW_seq ?_
    | refine AW_region (id := 0) Γe35_ok [] (by kernel_rfl) ?_; simp  [-List.getD_eq_getElem?_getD, -List.drop_one, ↓splitB_true, ↓splitB_false, go_sem]
    | refine AW_region (id := 1) Γe35_ok [] (by kernel_rfl) ?_; simp  [-List.getD_eq_getElem?_getD, -List.drop_one, ↓splitB_true, ↓splitB_false, go_sem, (show True from trivial)]
    | refine AW_region (id := 2) Γe35_ok [] (by kernel_rfl) ?_; simp  [-List.getD_eq_getElem?_getD, -List.drop_one, ↓splitB_true, ↓splitB_false, go_sem]
    | refine AW_region (id := 3) Γe35_ok [] (by kernel_rfl) ?_; simp  [-List.getD_eq_getElem?_getD, -List.drop_one, ↓splitB_true, ↓splitB_false, go_sem]; try ((intro c3); (generalize DrawGraphSame_sel xs c3 = y at *); (obtain ⟨⟨a1, a2⟩, ⟨b1, b2⟩⟩ := y); (refine AW_data hK 3 ?_); (simp [go_sem]); (refine AW_data hK 4 ?_); (simp [go_sem]))
    | refine AW_region_draw (id := 4) Γe35_ok mixed [20, 29] [3, 4] (by kernel_rfl) (by kernel_rfl) (by simp [-List.getD_eq_getElem?_getD, -List.drop_one, ↓splitB_true, ↓splitB_false, go_sem, (show decide (b1 = a1) = decide (a1 = b1) from decide_eq_decide.2 eq_comm), (show decide (b2 = a2) = decide (a2 = b2) from decide_eq_decide.2 eq_comm)]) ?_; simp  [-List.getD_eq_getElem?_getD, -List.drop_one, ↓splitB_true, ↓splitB_false, go_sem, (show decide (b1 = a1) = decide (a1 = b1) from decide_eq_decide.2 eq_comm), (show decide (b2 = a2) = decide (a2 = b2) from decide_eq_decide.2 eq_comm)]; try (refine ⟨fun s4a => ?_, fun s4a => ?_⟩ <;> (try simp [B_iff, B_not] at s4a) <;> try (refine ⟨fun s4b => ?_, fun s4b => ?_⟩ <;> (try simp [B_iff, B_not] at s4b) <;> try (refine ⟨fun s4c => ?_, fun s4c => ?_⟩ <;> (try simp [B_iff, B_not] at s4c))))
    | refine AW_condA (c := .tmp 7) ?_; simp [-List.getD_eq_getElem?_getD, -List.drop_one, ↓splitB_true, ↓splitB_false, go_sem]; try first | (refine ⟨?_, ?_⟩ <;> change AW _ _ _ _ _ _) | (refine ⟨fun c7 => ?_, fun c7 => ?_⟩ <;> (try simp [B_iff, B_not] at c7))
    | (refine AW_block ?_)
    | (refine AW_exit ?_; simp [-List.getD_eq_getElem?_getD, -List.drop_one, ↓splitB_true, ↓splitB_false, go_sem])
    | (refine AW_skip ?_; simp [-List.getD_eq_getElem?_getD, -List.drop_one, ↓splitB_true, ↓splitB_false, go_sem])
    | (refine AW_ret ?_; simp [-List.getD_eq_getElem?_getD, -List.drop_one, ↓splitB_true, ↓splitB_false, go_sem, Try.results4])
    | (intro hx; change AW _ _ _ _ _ _)
    | (refine ⟨?_, ?_⟩ <;> change AW _ _ _ _ _ _)
    | (intro hx; refine ⟨fun hs => ?_, fun hs => ?_⟩)
    | (refine ⟨fun hs => ?_, fun hs => ?_⟩)
    | (refine ⟨?_, fun hs => ?_⟩; change AW _ _ _ _ _ _)
    | (refine ⟨fun hs => ?_, ?_⟩; rotate_left; change AW _ _ _ _ _ _; rotate_left)))
end Go.Proofs.Ytljncoikoffijaa.Vm

