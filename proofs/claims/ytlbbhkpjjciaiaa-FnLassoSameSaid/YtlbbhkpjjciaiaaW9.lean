/-
  FnLassoSame: the walk of the law. No conditions.
-/
import Derived.Test.YtlbbhkpjjciaiaaD6
namespace Go.Proofs.Ytlbbhkpjjciaiaa.Vm
open Go
set_option linter.unusedVariables false
set_option linter.unusedSimpArgs false
set_option maxRecDepth 200000

set_option maxHeartbeats 4000000 in
theorem lawFnLassoSame (xs : List UInt8)  : Pure Try.prog 4 [li cY xs] (.bool true) := by
  refine Pure.of_walk Try.func4 rfl (by simp [Try.f4]) (by simp [-List.drop_one, go_sem]) fun B hK => ?_
  cases hv : Vm.B (LasOk (xS xs) (xL xs)) <;> by_cases h0 : xI xs < 0 <;> by_cases hi : xI xs < ((xS xs).length : Int)
  all_goals (repeat' (first
    | refine AW_seq ?_
    | refine AW_region (id := 0) Γs46_ok [] (by kernel_rfl) ?_; simp  [-List.getD_eq_getElem?_getD, -List.drop_one, ↓splitB_true, ↓splitB_false, go_sem]
    | refine AW_region (id := 1) Γs46_ok [] (by kernel_rfl) ?_; simp  [-List.getD_eq_getElem?_getD, -List.drop_one, ↓splitB_true, ↓splitB_false, go_sem, (show True from trivial)]
    | refine AW_region (id := 2) Γs46_ok [] (by kernel_rfl) ?_; simp  [-List.getD_eq_getElem?_getD, -List.drop_one, ↓splitB_true, ↓splitB_false, go_sem]
    | refine AW_region (id := 3) Γs46_ok [] (by kernel_rfl) ?_; simp  [-List.getD_eq_getElem?_getD, -List.drop_one, ↓splitB_true, ↓splitB_false, go_sem]; try (refine AW_data hK 3 ?_; simp [go_sem]; refine AW_data hK 4 ?_; simp [go_sem])
    | refine AW_region (id := 4) Γs46_ok [] (by kernel_rfl) ?_; simp  [-List.getD_eq_getElem?_getD, -List.drop_one, ↓splitB_true, ↓splitB_false, go_sem]; try (refine AW_data hK 5 ?_; simp [go_sem])
    | refine AW_region (id := 5) Γs46_ok [] (by kernel_rfl) ?_; simp  [-List.getD_eq_getElem?_getD, -List.drop_one, ↓splitB_true, ↓splitB_false, go_sem, letD, hv, h0, letter, hi, (x_range xs).2.2.2.2.2]
    | refine AW_region (id := 6) Γs46_ok [] (by kernel_rfl) ?_; simp  [-List.getD_eq_getElem?_getD, -List.drop_one, ↓splitB_true, ↓splitB_false, go_sem, letD, hv, h0, letter, hi, (x_range xs).2.2.2.2.2]
    | (have i1 : (xI xs).toNat < (xS xs).length := (by omega)); refine AW_region (id := 7) Γs46_ok [39, 44, 46, 53] (by kernel_rfl) ?_; simp  [-List.getD_eq_getElem?_getD, -List.drop_one, ↓splitB_true, ↓splitB_false, go_sem, i1, ne_nil i1, Nat.sub_pos_of_lt i1, hv, h0, hi, (show 0 ≤ xI xs by omega)]; try (refine ⟨fun s7a => ?_, fun s7a => ?_⟩ <;> (try simp [B_iff, B_not] at s7a) <;> try (refine ⟨fun s7b => ?_, fun s7b => ?_⟩ <;> (try simp [B_iff, B_not] at s7b) <;> try (refine ⟨fun s7c => ?_, fun s7c => ?_⟩ <;> (try simp [B_iff, B_not] at s7c) <;> try (refine ⟨fun s7d => ?_, fun s7d => ?_⟩ <;> (try simp [B_iff, B_not] at s7d) <;> try (refine ⟨fun s7e => ?_, fun s7e => ?_⟩ <;> (try simp [B_iff, B_not] at s7e))))))
    | refine AW_region (id := 7) Γs46_ok [39, 44, 46, 53] (by kernel_rfl) ?_; simp  [-List.getD_eq_getElem?_getD, -List.drop_one, ↓splitB_true, ↓splitB_false, go_sem, hv, h0, hi]; try (refine ⟨fun s7a => ?_, fun s7a => ?_⟩ <;> (try simp [B_iff, B_not] at s7a) <;> try (refine ⟨fun s7b => ?_, fun s7b => ?_⟩ <;> (try simp [B_iff, B_not] at s7b) <;> try (refine ⟨fun s7c => ?_, fun s7c => ?_⟩ <;> (try simp [B_iff, B_not] at s7c) <;> try (refine ⟨fun s7d => ?_, fun s7d => ?_⟩ <;> (try simp [B_iff, B_not] at s7d) <;> try (refine ⟨fun s7e => ?_, fun s7e => ?_⟩ <;> (try simp [B_iff, B_not] at s7e))))))
    | refine AW_region (id := 8) Γs46_ok [] (by kernel_rfl) ?_; simp  [-List.getD_eq_getElem?_getD, -List.drop_one, ↓splitB_true, ↓splitB_false, go_sem]
    | refine AW_region_draw (id := 9) Γs46_ok mixed [70, 79] [3, 4] (by kernel_rfl) (by kernel_rfl) (by simp [-List.getD_eq_getElem?_getD, -List.drop_one, ↓splitB_true, ↓splitB_false, go_sem, (show (eC xs = eA xs) = (eA xs = eC xs) from propext eq_comm), (show (eD xs = eB xs) = (eB xs = eD xs) from propext eq_comm)]) ?_; simp  [-List.getD_eq_getElem?_getD, -List.drop_one, ↓splitB_true, ↓splitB_false, go_sem, (show (eC xs = eA xs) = (eA xs = eC xs) from propext eq_comm), (show (eD xs = eB xs) = (eB xs = eD xs) from propext eq_comm)]; try (refine ⟨fun s9a => ?_, fun s9a => ?_⟩ <;> (try simp [B_iff, B_not] at s9a) <;> try (refine ⟨fun s9b => ?_, fun s9b => ?_⟩ <;> (try simp [B_iff, B_not] at s9b) <;> try (refine ⟨fun s9c => ?_, fun s9c => ?_⟩ <;> (try simp [B_iff, B_not] at s9c))))
    | refine AW_condA (c := .tmp 13) ?_; simp [-List.getD_eq_getElem?_getD, -List.drop_one, ↓splitB_true, ↓splitB_false, go_sem]; try first | (refine ⟨?_, ?_⟩ <;> change AW _ _ _ _ _ _) | (refine ⟨fun c13 => ?_, fun c13 => ?_⟩ <;> (try simp [B_iff, B_not] at c13))
    | refine AW_condA (c := .tmp 62) ?_; simp [-List.getD_eq_getElem?_getD, -List.drop_one, ↓splitB_true, ↓splitB_false, go_sem]; try first | (refine ⟨?_, ?_⟩ <;> change AW _ _ _ _ _ _) | (refine ⟨fun c62 => ?_, fun c62 => ?_⟩ <;> (try simp [B_iff, B_not] at c62))
    | (refine AW_block ?_)
    | (refine AW_exit ?_; simp [-List.getD_eq_getElem?_getD, -List.drop_one, ↓splitB_true, ↓splitB_false, go_sem])
    | (refine AW_skip ?_; simp [-List.getD_eq_getElem?_getD, -List.drop_one, ↓splitB_true, ↓splitB_false, go_sem])
    | (refine AW_ret ?_; simp [-List.getD_eq_getElem?_getD, -List.drop_one, ↓splitB_true, ↓splitB_false, go_sem, Try.results4])
    | (intro hx; change AW _ _ _ _ _ _)
    | (refine ⟨?_, ?_⟩ <;> change AW _ _ _ _ _ _)
    | (intro hx; refine ⟨fun hs => ?_, fun hs => ?_⟩)
    | (refine ⟨fun hs => ?_, fun hs => ?_⟩)
    | (refine ⟨?_, fun hs => ?_⟩; change AW _ _ _ _ _ _)
    | (refine ⟨fun hs => ?_, ?_⟩; rotate_left; change AW _ _ _ _ _ _; rotate_left)))
end Go.Proofs.Ytlbbhkpjjciaiaa.Vm

