/-
  FnExactParseLasso: the walk of the law. No conditions.
-/
import Derived.Test.YtlbbhkpjjciaiaaP6
namespace Go.Proofs.Ytlbbhkpjjciaiaa.Vm
open Go
set_option linter.unusedVariables false
set_option linter.unusedSimpArgs false
set_option maxRecDepth 200000

set_option maxHeartbeats 4000000 in
theorem lawParseLasso (s : List UInt8)  : Pure Try.prog 12 [.str s] (.bool true) := by
  refine Pure.of_walk Try.func12 rfl (by simp [Try.f12]) (by simp [-List.drop_one, go_sem]) fun B hK => ?_
  have z1 := cut1_len s 40; have z2 := cut2_len s 40; have z3 := trimB_len (cut2 s 40) 41; (have z4 : (iA s).length = (cut1 s 40).length := digN_len _); (have z5 : (iC s).length = (trimB (cut2 s 40) 41).length := digN_len _); (have hS := parse_same s); (have eA : Vm.B (IpOk s) = true → sA s = iA s := (fun h => (ip_sp (by rw [B_iff] at h; exact h)).2.1)); (have eC : Vm.B (IpOk s) = true → sC s = iC s := (fun h => (ip_sp (by rw [B_iff] at h; exact h)).2.2)); cases hB : Vm.B (IpOk s)
  all_goals (repeat' (first
    | refine AW_seq ?_
    | refine AW_region (id := 0) Γp16_ok [] (by kernel_rfl) ?_; simp  [-List.getD_eq_getElem?_getD, -List.drop_one, ↓splitB_true, ↓splitB_false, go_sem]
    | refine AW_region (id := 1) Γp16_ok [] (by kernel_rfl) ?_; simp  [-List.getD_eq_getElem?_getD, -List.drop_one, ↓splitB_true, ↓splitB_false, go_sem]
    | refine AW_region (id := 2) Γp16_ok [] (by kernel_rfl) ?_; simp  [-List.getD_eq_getElem?_getD, -List.drop_one, ↓splitB_true, ↓splitB_false, go_sem]
    | (have hl : s.length ≤ 1048576 := (by omega); have q1 : (1 : Int) + (iA s).length + (iC s).length ≤ 1099511627776 := (by omega); have q2 : ¬ ((1 : Int) + (iA s).length + (iC s).length < 0) := (by omega)); refine AW_region (id := 3) Γp16_ok [] (by kernel_rfl) ?_; simp  [-List.getD_eq_getElem?_getD, -List.drop_one, ↓splitB_true, ↓splitB_false, go_sem, hl, hS, hB, eA, eC]; try (refine AW_data hK 3 ?_; simp [go_sem])
    | refine AW_region (id := 4) Γp16_ok [] (by kernel_rfl) ?_; simp  [-List.getD_eq_getElem?_getD, -List.drop_one, ↓splitB_true, ↓splitB_false, go_sem, hl, hB]; try ((try refine AW_boxNil0 5 rfl ?_); (try refine AW_boxNil1 5 rfl ?_); (refine AW_box2 5 rfl fun p9 y1 y2 k1 k2 e1 e2 hp9 hy1 hy2 ny1 ny2 m12 => ?_); (clear hp9 hy1 hy2))
    | refine AW_region (id := 5) Γp16_ok [28] (by kernel_rfl) ?_; simp  [-List.getD_eq_getElem?_getD, -List.drop_one, ↓splitB_true, ↓splitB_false, go_sem, hB, ny1, ny2, m12, Ne.symm ny1, Ne.symm ny2, Ne.symm m12]; try (refine ⟨fun s5a => ?_, fun s5a => ?_⟩ <;> (try simp [B_iff, B_not] at s5a) <;> try (refine ⟨fun s5b => ?_, fun s5b => ?_⟩ <;> (try simp [B_iff, B_not] at s5b)))
    | refine AW_region (id := 6) Γp16_ok [] (by kernel_rfl) ?_; simp  [-List.getD_eq_getElem?_getD, -List.drop_one, ↓splitB_true, ↓splitB_false, go_sem]
    | refine AW_region (id := 7) Γp16_ok [] (by kernel_rfl) ?_; simp  [-List.getD_eq_getElem?_getD, -List.drop_one, ↓splitB_true, ↓splitB_false, go_sem]
    | refine AW_region (id := 8) Γp16_ok [] (by kernel_rfl) ?_; simp  [-List.getD_eq_getElem?_getD, -List.drop_one, ↓splitB_true, ↓splitB_false, go_sem, ny1, ny2, m12, Ne.symm ny1, Ne.symm ny2, Ne.symm m12, q1, q2, (show (0 : Int) ≤ 1 by omega), hl]
    | refine AW_region (id := 9) Γp16_ok [] (by kernel_rfl) ?_; simp  [-List.getD_eq_getElem?_getD, -List.drop_one, ↓splitB_true, ↓splitB_false, go_sem]
    | refine AW_region (id := 10) Γp16_ok [] (by kernel_rfl) ?_; simp  [-List.getD_eq_getElem?_getD, -List.drop_one, ↓splitB_true, ↓splitB_false, go_sem, ny1, ny2, m12, Ne.symm ny1, Ne.symm ny2, Ne.symm m12, q1, q2, (show (0 : Int) ≤ 1 by omega), hl]
    | refine AW_region (id := 11) Γp16_ok [] (by kernel_rfl) ?_; simp  [-List.getD_eq_getElem?_getD, -List.drop_one, ↓splitB_true, ↓splitB_false, go_sem, q2]
    | refine AW_region (id := 12) Γp16_ok [] (by kernel_rfl) ?_; simp  [-List.getD_eq_getElem?_getD, -List.drop_one, ↓splitB_true, ↓splitB_false, go_sem]
    | refine AW_region (id := 13) Γp16_ok [] (by kernel_rfl) ?_; simp  [-List.getD_eq_getElem?_getD, -List.drop_one, ↓splitB_true, ↓splitB_false, go_sem]
    | refine AW_region (id := 14) Γp16_ok [] (by kernel_rfl) ?_; simp  [-List.getD_eq_getElem?_getD, -List.drop_one, ↓splitB_true, ↓splitB_false, go_sem]
    | refine AW_region (id := 15) Γp16_ok [] (by kernel_rfl) ?_; simp  [-List.getD_eq_getElem?_getD, -List.drop_one, ↓splitB_true, ↓splitB_false, go_sem, hl, hB]; try (refine AW_data hK 9 ?_; simp [go_sem])
    | refine AW_region (id := 16) Γp16_ok [53] (by kernel_rfl) ?_; simp  [-List.getD_eq_getElem?_getD, -List.drop_one, ↓splitB_true, ↓splitB_false, go_sem, hB, ny1, ny2, m12, Ne.symm ny1, Ne.symm ny2, Ne.symm m12]; try (refine ⟨fun s16a => ?_, fun s16a => ?_⟩ <;> (try simp [B_iff, B_not] at s16a) <;> try (refine ⟨fun s16b => ?_, fun s16b => ?_⟩ <;> (try simp [B_iff, B_not] at s16b)))
    | refine AW_region (id := 17) Γp16_ok [] (by kernel_rfl) ?_; simp  [-List.getD_eq_getElem?_getD, -List.drop_one, ↓splitB_true, ↓splitB_false, go_sem]
    | refine AW_region (id := 18) Γp16_ok [] (by kernel_rfl) ?_; simp  [-List.getD_eq_getElem?_getD, -List.drop_one, ↓splitB_true, ↓splitB_false, go_sem]
    | refine AW_region (id := 19) Γp16_ok [] (by kernel_rfl) ?_; simp  [-List.getD_eq_getElem?_getD, -List.drop_one, ↓splitB_true, ↓splitB_false, go_sem, ny1, ny2, m12, Ne.symm ny1, Ne.symm ny2, Ne.symm m12, q1, q2, (show (0 : Int) ≤ 1 by omega), hl]
    | refine AW_region (id := 20) Γp16_ok [] (by kernel_rfl) ?_; simp  [-List.getD_eq_getElem?_getD, -List.drop_one, ↓splitB_true, ↓splitB_false, go_sem, q2]
    | refine AW_region (id := 21) Γp16_ok [] (by kernel_rfl) ?_; simp  [-List.getD_eq_getElem?_getD, -List.drop_one, ↓splitB_true, ↓splitB_false, go_sem]
    | refine AW_region (id := 22) Γp16_ok [] (by kernel_rfl) ?_; simp  [-List.getD_eq_getElem?_getD, -List.drop_one, ↓splitB_true, ↓splitB_false, go_sem]
    | refine AW_region (id := 23) Γp16_ok [] (by kernel_rfl) ?_; simp  [-List.getD_eq_getElem?_getD, -List.drop_one, ↓splitB_true, ↓splitB_false, go_sem]
    | refine AW_region (id := 24) Γp16_ok [] (by kernel_rfl) ?_; simp  [-List.getD_eq_getElem?_getD, -List.drop_one, ↓splitB_true, ↓splitB_false, go_sem]
    | refine AW_condA (c := .tmp 13) ?_; simp [-List.getD_eq_getElem?_getD, -List.drop_one, ↓splitB_true, ↓splitB_false, go_sem]; try first | (refine ⟨?_, ?_⟩ <;> change AW _ _ _ _ _ _) | (refine ⟨fun c13 => ?_, fun c13 => ?_⟩ <;> (try simp [B_iff, B_not] at c13))
    | refine AW_condA (c := .tmp 32) ?_; simp [-List.getD_eq_getElem?_getD, -List.drop_one, ↓splitB_true, ↓splitB_false, go_sem]; try first | (refine ⟨?_, ?_⟩ <;> change AW _ _ _ _ _ _) | (refine ⟨fun c32 => ?_, fun c32 => ?_⟩ <;> (try simp [B_iff, B_not] at c32))
    | refine AW_condA (c := .tmp 40) ?_; simp [-List.getD_eq_getElem?_getD, -List.drop_one, ↓splitB_true, ↓splitB_false, go_sem]; try first | (refine ⟨?_, ?_⟩ <;> change AW _ _ _ _ _ _) | (refine ⟨fun c40 => ?_, fun c40 => ?_⟩ <;> (try simp [B_iff, B_not] at c40))
    | refine AW_condA (c := .tmp 43) ?_; simp [-List.getD_eq_getElem?_getD, -List.drop_one, ↓splitB_true, ↓splitB_false, go_sem]; try first | (refine ⟨?_, ?_⟩ <;> change AW _ _ _ _ _ _) | (refine ⟨fun c43 => ?_, fun c43 => ?_⟩ <;> (try simp [B_iff, B_not] at c43))
    | refine AW_condA (c := .tmp 57) ?_; simp [-List.getD_eq_getElem?_getD, -List.drop_one, ↓splitB_true, ↓splitB_false, go_sem]; try first | (refine ⟨?_, ?_⟩ <;> change AW _ _ _ _ _ _) | (refine ⟨fun c57 => ?_, fun c57 => ?_⟩ <;> (try simp [B_iff, B_not] at c57))
    | refine AW_condA (c := .tmp 62) ?_; simp [-List.getD_eq_getElem?_getD, -List.drop_one, ↓splitB_true, ↓splitB_false, go_sem]; try first | (refine ⟨?_, ?_⟩ <;> change AW _ _ _ _ _ _) | (refine ⟨fun c62 => ?_, fun c62 => ?_⟩ <;> (try simp [B_iff, B_not] at c62))
    | refine AW_condA (c := .tmp 65) ?_; simp [-List.getD_eq_getElem?_getD, -List.drop_one, ↓splitB_true, ↓splitB_false, go_sem]; try first | (refine ⟨?_, ?_⟩ <;> change AW _ _ _ _ _ _) | (refine ⟨fun c65 => ?_, fun c65 => ?_⟩ <;> (try simp [B_iff, B_not] at c65))
    | (refine AW_block ?_)
    | (refine AW_exit ?_; simp [-List.getD_eq_getElem?_getD, -List.drop_one, ↓splitB_true, ↓splitB_false, go_sem])
    | (refine AW_skip ?_; simp [-List.getD_eq_getElem?_getD, -List.drop_one, ↓splitB_true, ↓splitB_false, go_sem])
    | (refine AW_ret ?_; simp [-List.getD_eq_getElem?_getD, -List.drop_one, ↓splitB_true, ↓splitB_false, go_sem, Try.results12])
    | (intro hx; change AW _ _ _ _ _ _)
    | (refine ⟨?_, ?_⟩ <;> change AW _ _ _ _ _ _)
    | (intro hx; refine ⟨fun hs => ?_, fun hs => ?_⟩)
    | (refine ⟨fun hs => ?_, fun hs => ?_⟩)
    | (refine ⟨?_, fun hs => ?_⟩; change AW _ _ _ _ _ _)
    | (refine ⟨fun hs => ?_, ?_⟩; rotate_left; change AW _ _ _ _ _ _; rotate_left)))
end Go.Proofs.Ytlbbhkpjjciaiaa.Vm

