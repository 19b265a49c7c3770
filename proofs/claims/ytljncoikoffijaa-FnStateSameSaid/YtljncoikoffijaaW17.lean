/-
  FnStateSame: the walk of the law. No conditions.
-/
import Derived.Test.YtljncoikoffijaaE14
namespace Go.Proofs.Ytljncoikoffijaa.Vm
open Go
set_option linter.unusedVariables false
set_option linter.unusedSimpArgs false
set_option maxRecDepth 200000

set_option maxHeartbeats 4000000 in
theorem lawFnStateSame (xs : List UInt8)  : Pure Try.prog 3 [li cY xs] (.bool true) := by
  refine Pure.of_walk Try.func3 rfl (by simp [Try.f3]) (by simp [-List.drop_one, go_sem]) fun B hK => ?_
  (repeat' (first
    | refine AW_seq ?_
    | refine AW_region (id := 0) Γe28_ok [] (by kernel_rfl) ?_; simp  [-List.getD_eq_getElem?_getD, -List.drop_one, ↓splitB_true, ↓splitB_false, go_sem]
    | refine AW_region (id := 1) Γe28_ok [] (by kernel_rfl) ?_; simp  [-List.getD_eq_getElem?_getD, -List.drop_one, ↓splitB_true, ↓splitB_false, go_sem, (show True from trivial)]
    | refine AW_region (id := 2) Γe28_ok [] (by kernel_rfl) ?_; simp  [-List.getD_eq_getElem?_getD, -List.drop_one, ↓splitB_true, ↓splitB_false, go_sem]
    | refine AW_region (id := 3) Γe28_ok [] (by kernel_rfl) ?_; simp  [-List.getD_eq_getElem?_getD, -List.drop_one, ↓splitB_true, ↓splitB_false, go_sem]; try ((intro c3); (have y0 := DrawStateSame_ok xs c3); (generalize DrawStateSame_sel xs c3 = y at *); (obtain ⟨⟨a1, a2⟩, ⟨b1, b2⟩⟩ := y); (simp only [DrawStateSame_good] at y0); (obtain ⟨y1, y2, y3, y4⟩ := y0); (refine AW_data hK 3 ?_); (simp [go_sem]); (refine AW_data hK 4 ?_); (simp [go_sem]))
    | refine AW_region_draw (id := 4) Γe28_ok mixed [20, 29, 34] [3, 4] (by kernel_rfl) (by kernel_rfl) (by simp [-List.getD_eq_getElem?_getD, -List.drop_one, ↓splitB_true, ↓splitB_false, go_sem, (show decide (b1 = a1) = decide (a1 = b1) from decide_eq_decide.2 eq_comm), (show decide (b2 = a2) = decide (a2 = b2) from decide_eq_decide.2 eq_comm), (show a2.length ≤ 9223372036854775807 by omega), (show 2 * a2.length * 8 ≤ 281474976710656 by omega), (show a2.length ≤ 9223372036854775806 by omega), (show 2 * (a2.length + 1) * 8 ≤ 281474976710656 by omega), (show cat cI a2 ++ [D.int .i64 0] = cat cI (a2 ++ [0]) from by rw [cat_append]; rfl), (show Is cI (a2.length + 1) (cat cI (a2 ++ [0])) from ⟨a2 ++ [0], by simp, rfl⟩)]) ?_; simp  [-List.getD_eq_getElem?_getD, -List.drop_one, ↓splitB_true, ↓splitB_false, go_sem, (show decide (b1 = a1) = decide (a1 = b1) from decide_eq_decide.2 eq_comm), (show decide (b2 = a2) = decide (a2 = b2) from decide_eq_decide.2 eq_comm), (show a2.length ≤ 9223372036854775807 by omega), (show 2 * a2.length * 8 ≤ 281474976710656 by omega), (show a2.length ≤ 9223372036854775806 by omega), (show 2 * (a2.length + 1) * 8 ≤ 281474976710656 by omega), (show cat cI a2 ++ [D.int .i64 0] = cat cI (a2 ++ [0]) from by rw [cat_append]; rfl), (show Is cI (a2.length + 1) (cat cI (a2 ++ [0])) from ⟨a2 ++ [0], by simp, rfl⟩)]; try (refine ⟨fun s4a => ?_, fun s4a => ?_⟩ <;> (try simp [B_iff, B_not] at s4a) <;> try (refine ⟨fun s4b => ?_, fun s4b => ?_⟩ <;> (try simp [B_iff, B_not] at s4b) <;> try (refine ⟨fun s4c => ?_, fun s4c => ?_⟩ <;> (try simp [B_iff, B_not] at s4c) <;> try (refine ⟨fun s4d => ?_, fun s4d => ?_⟩ <;> (try simp [B_iff, B_not] at s4d)))))
    | refine AW_condA (c := .tmp 7) ?_; simp [-List.getD_eq_getElem?_getD, -List.drop_one, ↓splitB_true, ↓splitB_false, go_sem]; try first | (refine ⟨?_, ?_⟩ <;> change AW _ _ _ _ _ _) | (refine ⟨fun c7 => ?_, fun c7 => ?_⟩ <;> (try simp [B_iff, B_not] at c7))
    | (refine AW_block ?_)
    | (refine AW_exit ?_; simp [-List.getD_eq_getElem?_getD, -List.drop_one, ↓splitB_true, ↓splitB_false, go_sem])
    | (refine AW_skip ?_; simp [-List.getD_eq_getElem?_getD, -List.drop_one, ↓splitB_true, ↓splitB_false, go_sem])
    | (refine AW_ret ?_; simp [-List.getD_eq_getElem?_getD, -List.drop_one, ↓splitB_true, ↓splitB_false, go_sem, Try.results3])
    | (intro hx; change AW _ _ _ _ _ _)
    | (refine ⟨?_, ?_⟩ <;> change AW _ _ _ _ _ _)
    | (intro hx; refine ⟨fun hs => ?_, fun hs => ?_⟩)
    | (refine ⟨fun hs => ?_, fun hs => ?_⟩)
    | (refine ⟨?_, fun hs => ?_⟩; change AW _ _ _ _ _ _)
    | (refine ⟨fun hs => ?_, ?_⟩; rotate_left; change AW _ _ _ _ _ _; rotate_left)))
end Go.Proofs.Ytljncoikoffijaa.Vm

