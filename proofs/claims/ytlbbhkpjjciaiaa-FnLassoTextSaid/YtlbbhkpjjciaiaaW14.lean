/-
  FnLassoText: the walk of the law. No conditions.
-/
import Derived.Test.YtlbbhkpjjciaiaaP8
namespace Go.Proofs.Ytlbbhkpjjciaiaa.Vm
open Go
set_option linter.unusedVariables false
set_option linter.unusedSimpArgs false
set_option maxRecDepth 200000

set_option maxHeartbeats 4000000 in
theorem lawFnLassoText (xs : List UInt8) (zs : List UInt8)  : Pure Try.prog 13 [li cY xs, li cY zs] (.bool true) := by
  refine Pure.of_walk Try.func13 rfl (by simp [Try.f13]) (by simp [-List.drop_one, go_sem]) fun B hK => ?_
  obtain ⟨_, _, x3, x4, _, _⟩ := x_range xs; obtain ⟨A, hA⟩ : ∃ A, xS xs = A := ⟨_, rfl⟩; obtain ⟨C, hC⟩ : ∃ C, xL xs = C := ⟨_, rfl⟩; (rw [hA] at x3); (rw [hC] at x4); have x5 := fmtL_len A C; have x6 := tX_len zs; obtain ⟨t, ht⟩ : ∃ t, tX zs = t := ⟨_, rfl⟩; (rw [ht] at x6); have hS := parse_same t; (have eA : Vm.B (IpOk t) = true → sA t = iA t := (fun h => (ip_sp (by rw [B_iff] at h; exact h)).2.1)); (have eC : Vm.B (IpOk t) = true → sC t = iC t := (fun h => (ip_sp (by rw [B_iff] at h; exact h)).2.2)); (have eF : Vm.B (IpOk t) = true → fmtL (iA t) (iC t) = t := (fun h => (by rw [B_iff] at h; exact h : IpOk t).2)); (have v1 : Vm.B (LasOk A C) = true → Vm.B (IpOk (fmtL A C)) = true := (fun h => B_yes (ip_fmt (by rw [B_iff] at h; exact h)).1)); (have v2 : Vm.B (LasOk A C) = true → iA (fmtL A C) = A := (fun h => (ip_fmt (by rw [B_iff] at h; exact h)).2.1)); (have v3 : Vm.B (LasOk A C) = true → iC (fmtL A C) = C := (fun h => (ip_fmt (by rw [B_iff] at h; exact h)).2.2)); (have v4 : Vm.B (LasOk A C) = false → Vm.B (IpOk (fmtL A C)) = false := (fun h => by rw [fmtL, if_neg (by rw [h]; simp)]; exact ip_nil)); (cases hv : Vm.B (LasOk A C) <;> cases hB : Vm.B (IpOk t))
  all_goals (repeat' (first
    | refine AW_seq ?_
    | refine AW_region (id := 0) Γp20_ok [] (by kernel_rfl) ?_; simp  [-List.getD_eq_getElem?_getD, -List.drop_one, ↓splitB_true, ↓splitB_false, go_sem]
    | refine AW_region (id := 1) Γp20_ok [17] (by kernel_rfl) ?_; simp  [-List.getD_eq_getElem?_getD, -List.drop_one, ↓splitB_true, ↓splitB_false, go_sem]; try (refine ⟨fun s1a => ?_, fun s1a => ?_⟩ <;> (try simp [B_iff, B_not] at s1a) <;> try (refine ⟨fun s1b => ?_, fun s1b => ?_⟩ <;> (try simp [B_iff, B_not] at s1b)))
    | refine AW_region (id := 2) Γp20_ok [] (by kernel_rfl) ?_; simp  [-List.getD_eq_getElem?_getD, -List.drop_one, ↓splitB_true, ↓splitB_false, go_sem]
    | refine AW_region (id := 3) Γp20_ok [] (by kernel_rfl) ?_; simp  [-List.getD_eq_getElem?_getD, -List.drop_one, ↓splitB_true, ↓splitB_false, go_sem, hA, hC]; try (refine AW_data hK 5 ?_; simp [go_sem])
    | refine AW_region (id := 4) Γp20_ok [] (by kernel_rfl) ?_; simp  [-List.getD_eq_getElem?_getD, -List.drop_one, ↓splitB_true, ↓splitB_false, go_sem]
    | refine AW_region (id := 5) Γp20_ok [] (by kernel_rfl) ?_; simp  [-List.getD_eq_getElem?_getD, -List.drop_one, ↓splitB_true, ↓splitB_false, go_sem, (show (fmtL A C).length ≤ 1048576 by omega), hv, v1, v2, v3, v4]; try (refine AW_data hK 7 ?_; simp [go_sem])
    | refine AW_region_draw (id := 6) Γp20_ok mixed [35, 42, 48, 50] [5] (by kernel_rfl) (by kernel_rfl) (by simp [-List.getD_eq_getElem?_getD, -List.drop_one, ↓splitB_true, ↓splitB_false, go_sem, hv]) ?_; simp  [-List.getD_eq_getElem?_getD, -List.drop_one, ↓splitB_true, ↓splitB_false, go_sem, hv]; try (refine ⟨fun s6a => ?_, fun s6a => ?_⟩ <;> (try simp [B_iff, B_not] at s6a) <;> try (refine ⟨fun s6b => ?_, fun s6b => ?_⟩ <;> (try simp [B_iff, B_not] at s6b) <;> try (refine ⟨fun s6c => ?_, fun s6c => ?_⟩ <;> (try simp [B_iff, B_not] at s6c) <;> try (refine ⟨fun s6d => ?_, fun s6d => ?_⟩ <;> (try simp [B_iff, B_not] at s6d) <;> try (refine ⟨fun s6e => ?_, fun s6e => ?_⟩ <;> (try simp [B_iff, B_not] at s6e))))))
    | refine AW_region (id := 7) Γp20_ok [] (by kernel_rfl) ?_; simp  [-List.getD_eq_getElem?_getD, -List.drop_one, ↓splitB_true, ↓splitB_false, go_sem]
    | refine AW_region (id := 8) Γp20_ok [] (by kernel_rfl) ?_; simp  [-List.getD_eq_getElem?_getD, -List.drop_one, ↓splitB_true, ↓splitB_false, go_sem, ht]
    | refine AW_region (id := 9) Γp20_ok [] (by kernel_rfl) ?_; simp  [-List.getD_eq_getElem?_getD, -List.drop_one, ↓splitB_true, ↓splitB_false, go_sem, (show t.length ≤ 1048576 by omega), hB]; try (refine AW_data hK 10 ?_; simp [go_sem])
    | refine AW_region (id := 10) Γp20_ok [] (by kernel_rfl) ?_; simp  [-List.getD_eq_getElem?_getD, -List.drop_one, ↓splitB_true, ↓splitB_false, go_sem, (show t.length ≤ 1048576 by omega), hS, hB, eA, eC]; try (refine AW_data hK 12 ?_; simp [go_sem])
    | refine AW_region (id := 11) Γp20_ok [72, 77, 80] (by kernel_rfl) ?_; simp  [-List.getD_eq_getElem?_getD, -List.drop_one, ↓splitB_true, ↓splitB_false, go_sem, eF, hB]; try (refine ⟨fun s11a => ?_, fun s11a => ?_⟩ <;> (try simp [B_iff, B_not] at s11a) <;> try (refine ⟨fun s11b => ?_, fun s11b => ?_⟩ <;> (try simp [B_iff, B_not] at s11b) <;> try (refine ⟨fun s11c => ?_, fun s11c => ?_⟩ <;> (try simp [B_iff, B_not] at s11c) <;> try (refine ⟨fun s11d => ?_, fun s11d => ?_⟩ <;> (try simp [B_iff, B_not] at s11d)))))
    | refine AW_condA (c := .tmp 21) ?_; simp [-List.getD_eq_getElem?_getD, -List.drop_one, ↓splitB_true, ↓splitB_false, go_sem]; try first | (refine ⟨?_, ?_⟩ <;> change AW _ _ _ _ _ _) | (refine ⟨fun c21 => ?_, fun c21 => ?_⟩ <;> (try simp [B_iff, B_not] at c21))
    | refine AW_condA (c := .tmp 56) ?_; simp [-List.getD_eq_getElem?_getD, -List.drop_one, ↓splitB_true, ↓splitB_false, go_sem]; try first | (refine ⟨?_, ?_⟩ <;> change AW _ _ _ _ _ _) | (refine ⟨fun c56 => ?_, fun c56 => ?_⟩ <;> (try simp [B_iff, B_not] at c56))
    | (refine AW_block ?_)
    | (refine AW_exit ?_; simp [-List.getD_eq_getElem?_getD, -List.drop_one, ↓splitB_true, ↓splitB_false, go_sem])
    | (refine AW_skip ?_; simp [-List.getD_eq_getElem?_getD, -List.drop_one, ↓splitB_true, ↓splitB_false, go_sem])
    | (refine AW_ret ?_; simp [-List.getD_eq_getElem?_getD, -List.drop_one, ↓splitB_true, ↓splitB_false, go_sem, Try.results13])
    | (intro hx; change AW _ _ _ _ _ _)
    | (refine ⟨?_, ?_⟩ <;> change AW _ _ _ _ _ _)
    | (intro hx; refine ⟨fun hs => ?_, fun hs => ?_⟩)
    | (refine ⟨fun hs => ?_, fun hs => ?_⟩)
    | (refine ⟨?_, fun hs => ?_⟩; change AW _ _ _ _ _ _)
    | (refine ⟨fun hs => ?_, ?_⟩; rotate_left; change AW _ _ _ _ _ _; rotate_left)))
end Go.Proofs.Ytlbbhkpjjciaiaa.Vm

