/-
  FnExactGraphSame: the walk of the law. No conditions.
-/
import Derived.Test.YtlhchhmfbimnhaaF3
namespace Go.Proofs.Ytlhchhmfbimnhaa.Vm
open Go
set_option linter.unusedVariables false
set_option linter.unusedSimpArgs false
set_option maxRecDepth 200000

theorem lawGraphSame (a : List Ints2) (b : List (List Int)) (c : List Ints2) (d : List (List Int))  : Pure Try.prog 3 [.st [li cP a, li cL b], .st [li cP c, li cL d]] (.bool true) := by
  refine Pure.of_walk Try.func3 rfl (by simp [Try.f3]) (by simp [go_sem]) fun B hK => ?_
  (repeat' (first
    | refine AW_seq ?_
    | refine AW_region (id := 0) Γ23_ok [] (by kernel_rfl) ?_; simp [-List.getD_eq_getElem?_getD, go_sem]; try (refine AW_data hK 2 ?_; simp [go_sem]; refine AW_data hK 3 ?_; simp [go_sem])
    | refine AW_region (id := 1) Γ23_ok [] (by kernel_rfl) ?_; simp [-List.getD_eq_getElem?_getD, go_sem]
    | refine AW_region (id := 2) Γ23_ok [] (by kernel_rfl) ?_; simp [-List.getD_eq_getElem?_getD, go_sem]
    | refine AW_region (id := 3) Γ23_ok [] (by kernel_rfl) ?_; simp [-List.getD_eq_getElem?_getD, go_sem]
    | refine AW_region (id := 4) Γ23_ok [] (by kernel_rfl) ?_; simp [-List.getD_eq_getElem?_getD, go_sem]
    | refine AW_region (id := 5) Γ23_ok [] (by kernel_rfl) ?_; simp [-List.getD_eq_getElem?_getD, go_sem, szOf_lo (left := 1048576) (by omega), szOf_hi (left := 1048576) (by omega)]
    | refine AW_region (id := 6) Γ23_ok [] (by kernel_rfl) ?_; simp [-List.getD_eq_getElem?_getD, go_sem]
    | refine AW_region (id := 7) Γ23_ok [] (by kernel_rfl) ?_; simp [-List.getD_eq_getElem?_getD, go_sem]
    | (have q1 := szOf_le c14; have q2 := szOf_le c19; have q3 := szOf_hi (left := 1048576) (by omega) ((a.length + msum mP a a.length) + (b.length + msum mL b b.length)); have hA : a.length + msum mP a a.length ≤ 1048576 := (by omega); have hB : b.length + msum mL b b.length ≤ 1048576 := (by omega); have hC : c.length + msum mP c c.length ≤ 1048576 := (by omega); have hD : d.length + msum mL d d.length ≤ 1048576 := (by omega)); refine AW_region_draw (id := 8) Γ23_ok mixed [] [] (by kernel_rfl) (by kernel_rfl) (by simp [-List.getD_eq_getElem?_getD, go_sem, hA, hB, hC, hD]) ?_; simp [-List.getD_eq_getElem?_getD, go_sem, hA, hB, hC, hD]
    | refine AW_region (id := 9) Γ23_ok [] (by kernel_rfl) ?_; simp [-List.getD_eq_getElem?_getD, go_sem, hA, hB, hC, hD]; try (refine AW_data hK 7 ?_; simp [go_sem])
    | refine AW_region (id := 10) Γ23_ok [] (by kernel_rfl) ?_; simp [-List.getD_eq_getElem?_getD, go_sem, hA, hB, hC, hD]; try (refine AW_data hK 8 ?_; simp [go_sem])
    | refine AW_region (id := 11) Γ23_ok [] (by kernel_rfl) ?_; simp [-List.getD_eq_getElem?_getD, go_sem]
    | refine AW_region (id := 12) Γ23_ok [] (by kernel_rfl) ?_; simp [-List.getD_eq_getElem?_getD, go_sem]
    | refine AW_region (id := 13) Γ23_ok [] (by kernel_rfl) ?_; simp [-List.getD_eq_getElem?_getD, go_sem]
    | refine AW_region_draw (id := 14) Γ23_ok mixed [] [] (by kernel_rfl) (by kernel_rfl) (by simp [-List.getD_eq_getElem?_getD, go_sem, hA, hB, hC, hD]) ?_; simp [-List.getD_eq_getElem?_getD, go_sem, hA, hB, hC, hD]
    | refine AW_region (id := 15) Γ23_ok [] (by kernel_rfl) ?_; simp [-List.getD_eq_getElem?_getD, go_sem]
    | refine AW_region_draw (id := 16) Γ23_ok mixed [] [] (by kernel_rfl) (by kernel_rfl) (by simp [-List.getD_eq_getElem?_getD, go_sem, hA, hB, hC, hD]) ?_; simp [-List.getD_eq_getElem?_getD, go_sem, hA, hB, hC, hD]
    | refine AW_region (id := 17) Γ23_ok [] (by kernel_rfl) ?_; simp [-List.getD_eq_getElem?_getD, go_sem]
    | refine AW_region (id := 18) Γ23_ok [] (by kernel_rfl) ?_; simp [-List.getD_eq_getElem?_getD, go_sem]
    | refine AW_condA (c := .tmp 14) ?_; simp [-List.getD_eq_getElem?_getD, go_sem]; try (refine ⟨fun c14 => ?_, fun c14 => ?_⟩ <;> (try simp at c14))
    | refine AW_condA (c := .tmp 19) ?_; simp [-List.getD_eq_getElem?_getD, go_sem]; try (refine ⟨fun c19 => ?_, fun c19 => ?_⟩ <;> (try simp at c19))
    | refine AW_condA (c := .tmp 34) ?_; simp [-List.getD_eq_getElem?_getD, go_sem]; try (refine ⟨fun c34 => ?_, fun c34 => ?_⟩ <;> (try simp at c34))
    | refine AW_condA (c := .tmp 39) ?_; simp [-List.getD_eq_getElem?_getD, go_sem]; try (refine ⟨fun c39 => ?_, fun c39 => ?_⟩ <;> (try simp at c39))
    | refine AW_condA (c := .tmp 44) ?_; simp [-List.getD_eq_getElem?_getD, go_sem]; try (refine ⟨fun c44 => ?_, fun c44 => ?_⟩ <;> (try simp at c44))
    | (refine AW_block ?_)
    | (refine AW_exit ?_; simp [-List.getD_eq_getElem?_getD, go_sem])
    | (refine AW_skip ?_; simp [-List.getD_eq_getElem?_getD, go_sem])
    | (refine AW_ret ?_; simp [-List.getD_eq_getElem?_getD, go_sem, Try.results3])))
end Go.Proofs.Ytlhchhmfbimnhaa.Vm

