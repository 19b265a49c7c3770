/-
  FnPathValid: the walk of the law. No conditions.
-/
import Derived.Test.YtljncoikoffijaaE21
import Derived.Test.YtljncoikoffijaaB4
namespace Go.Proofs.Ytljncoikoffijaa.Vm
open Go
set_option linter.unusedVariables false
set_option linter.unusedSimpArgs false
set_option maxRecDepth 200000

theorem cut_idx {m n : Nat} (hm : m ≤ 1048576) (h : 1 ≤ n) (hn : n ≤ 9223372036854775807) : ¬ (n : Int) = 0 ∧ IntKind.i64.wrap (1 + (m : Int).tmod n) = 1 + (m : Int).tmod n ∧ 0 ≤ 1 + (m : Int).tmod n ∧ 1 + (m : Int).tmod n ≤ n ∧ (1 + (m : Int).tmod n).toNat ≤ n ∧ 1 ≤ (1 + (m : Int).tmod n).toNat := by
  have h1 := Int.tmod_nonneg (b := (n : Int)) (a := (m : Int)) (by omega)
  have h2 := Int.tmod_lt_of_pos (m : Int) (show (0 : Int) < n by omega)
  exact ⟨by omega, wrap_in (by omega) (by omega), by omega, by omega, by omega, by omega⟩
set_option maxHeartbeats 4000000 in
theorem lawFnPathValid (xs : List UInt8) (ys : List UInt8)  : Pure Try.prog 5 [li cY xs, li cY ys] (.bool true) := by
  refine Pure.of_walk Try.func5 rfl (by simp [Try.f5]) (by simp [-List.drop_one, go_sem]) fun B hK => ?_
  (repeat' (first
    | refine AW_seq ?_
    | (refine AW_len 1 rfl fun hm => ?_); refine AW_region (id := 0) Γe38_ok [] (by kernel_rfl) ?_; simp  [-List.getD_eq_getElem?_getD, -List.drop_one, ↓splitB_true, ↓splitB_false, go_sem]
    | refine AW_region (id := 1) Γe38_ok [12] (by kernel_rfl) ?_; simp  [-List.getD_eq_getElem?_getD, -List.drop_one, ↓splitB_true, ↓splitB_false, go_sem]; try (refine ⟨fun s1a => ?_, fun s1a => ?_⟩ <;> (try simp [B_iff, B_not] at s1a) <;> try (refine ⟨fun s1b => ?_, fun s1b => ?_⟩ <;> (try simp [B_iff, B_not] at s1b)))
    | refine AW_region (id := 2) Γe38_ok [] (by kernel_rfl) ?_; simp  [-List.getD_eq_getElem?_getD, -List.drop_one, ↓splitB_true, ↓splitB_false, go_sem]
    | refine AW_region (id := 3) Γe38_ok [] (by kernel_rfl) ?_; simp  [-List.getD_eq_getElem?_getD, -List.drop_one, ↓splitB_true, ↓splitB_false, go_sem]; try ((intro c3); (generalize DrawPathValid_sel xs c3 = z at *); (obtain ⟨⟨ga, gb⟩, pp⟩ := z); (refine AW_data hK 5 ?_); (simp [go_sem]); (refine AW_len 6 rfl fun hpm => ?_))
    | refine AW_region (id := 4) Γe38_ok [] (by kernel_rfl) ?_; simp  [-List.getD_eq_getElem?_getD, -List.drop_one, ↓splitB_true, ↓splitB_false, go_sem]; try ((cases hp : Vm.B (PathOk ga gb pp)); rotate_left; (have hP : PathOk ga gb pp := (by rw [B_iff] at hp; exact hp)); (have h1 : 1 ≤ pp.length := hP.2.1); rotate_left)
    | refine AW_region_draw (id := 5) Γe38_ok mixed [30, 37] [5] (by kernel_rfl) (by kernel_rfl) (by simp [-List.getD_eq_getElem?_getD, -List.drop_one, ↓splitB_true, ↓splitB_false, go_sem, hp]) ?_; simp  [-List.getD_eq_getElem?_getD, -List.drop_one, ↓splitB_true, ↓splitB_false, go_sem, hp]; try (refine ⟨fun s5a => ?_, fun s5a => ?_⟩ <;> (try simp [B_iff, B_not] at s5a) <;> try (refine ⟨fun s5b => ?_, fun s5b => ?_⟩ <;> (try simp [B_iff, B_not] at s5b) <;> try (refine ⟨fun s5c => ?_, fun s5c => ?_⟩ <;> (try simp [B_iff, B_not] at s5c))))
    | refine AW_region_draw (id := 6) Γe38_ok mixed [46] [5] (by kernel_rfl) (by kernel_rfl) (by simp [-List.getD_eq_getElem?_getD, -List.drop_one, ↓splitB_true, ↓splitB_false, go_sem, hp]) ?_; simp  [-List.getD_eq_getElem?_getD, -List.drop_one, ↓splitB_true, ↓splitB_false, go_sem, hp]; try (refine ⟨fun s6a => ?_, fun s6a => ?_⟩ <;> (try simp [B_iff, B_not] at s6a) <;> try (refine ⟨fun s6b => ?_, fun s6b => ?_⟩ <;> (try simp [B_iff, B_not] at s6b)))
    | ((have hl := spL_len ga gb (nth pp 0) (nth pp (pp.length - 1))); (obtain ⟨s1, s2⟩ := hP.short)); refine AW_region_draw (id := 7) Γe38_ok mixed [] [6] (by kernel_rfl) (by kernel_rfl) (by simp [-List.getD_eq_getElem?_getD, -List.drop_one, ↓splitB_true, ↓splitB_false, go_sem, ne_nil (show 0 < pp.length from h1), (show 0 < pp.length from h1), wrap_in (x := (pp.length : Int) - 1) (by omega) (by omega), (show ((pp.length : Int) - 1).toNat = pp.length - 1 by omega), (show (0 : Int) ≤ (pp.length : Int) - 1 by omega), (show (pp.length : Int) - 1 < pp.length by omega), (show pp.length - 1 < pp.length by omega), (show (1 : Int) ≤ pp.length by omega), (show 0 < pp.length - (pp.length - 1) by omega)]) ?_; simp  [-List.getD_eq_getElem?_getD, -List.drop_one, ↓splitB_true, ↓splitB_false, go_sem, ne_nil (show 0 < pp.length from h1), (show 0 < pp.length from h1), wrap_in (x := (pp.length : Int) - 1) (by omega) (by omega), (show ((pp.length : Int) - 1).toNat = pp.length - 1 by omega), (show (0 : Int) ≤ (pp.length : Int) - 1 by omega), (show (pp.length : Int) - 1 < pp.length by omega), (show pp.length - 1 < pp.length by omega), (show (1 : Int) ≤ pp.length by omega), (show 0 < pp.length - (pp.length - 1) by omega)]; try ((refine AW_data hK 8 ?_); (simp [go_sem]); (obtain ⟨sh, hsh⟩ : ∃ sh, spL ga gb (nth pp 0) (nth pp (pp.length - 1)) = sh := ⟨_, rfl⟩); (rw [hsh] at s1 s2 hl ⊢); (obtain ⟨k1, k2, k3, k4, k5, k6⟩ := cut_idx (m := ys.length) (n := pp.length) (by omega) h1 hpm))
    | refine AW_region_draw (id := 8) Γe38_ok mixed [74, 79] [6] (by kernel_rfl) (by kernel_rfl) (by simp [-List.getD_eq_getElem?_getD, -List.drop_one, ↓splitB_true, ↓splitB_false, go_sem, ne_nil (show 0 < pp.length from h1), (show 0 < pp.length from h1), k1, k2, k3, k4, k5, k6, B_yes (hP.take k6 k5), ne_nil (show 0 < sh.length from s1), (show (1 : Int) ≤ sh.length by omega), (show (sh.length : Int) ≤ pp.length by omega), s1, s2]) ?_; simp  [-List.getD_eq_getElem?_getD, -List.drop_one, ↓splitB_true, ↓splitB_false, go_sem, ne_nil (show 0 < pp.length from h1), (show 0 < pp.length from h1), k1, k2, k3, k4, k5, k6, B_yes (hP.take k6 k5), ne_nil (show 0 < sh.length from s1), (show (1 : Int) ≤ sh.length by omega), (show (sh.length : Int) ≤ pp.length by omega), s1, s2]; try (refine ⟨fun s8a => ?_, fun s8a => ?_⟩ <;> (try simp [B_iff, B_not] at s8a) <;> try (refine ⟨fun s8b => ?_, fun s8b => ?_⟩ <;> (try simp [B_iff, B_not] at s8b) <;> try (refine ⟨fun s8c => ?_, fun s8c => ?_⟩ <;> (try simp [B_iff, B_not] at s8c))))
    | refine AW_condA (c := .tmp 16) ?_; simp [-List.getD_eq_getElem?_getD, -List.drop_one, ↓splitB_true, ↓splitB_false, go_sem]; try first | (refine ⟨?_, ?_⟩ <;> change AW _ _ _ _ _ _) | (refine ⟨fun c16 => ?_, fun c16 => ?_⟩ <;> (try simp [B_iff, B_not] at c16))
    | refine AW_condA (c := .tmp 40) ?_; simp [-List.getD_eq_getElem?_getD, -List.drop_one, ↓splitB_true, ↓splitB_false, go_sem]; try first | (refine ⟨?_, ?_⟩ <;> change AW _ _ _ _ _ _) | (refine ⟨fun c40 => ?_, fun c40 => ?_⟩ <;> (try simp [B_iff, B_not] at c40))
    | (refine AW_block ?_)
    | (refine AW_exit ?_; simp [-List.getD_eq_getElem?_getD, -List.drop_one, ↓splitB_true, ↓splitB_false, go_sem])
    | (refine AW_skip ?_; simp [-List.getD_eq_getElem?_getD, -List.drop_one, ↓splitB_true, ↓splitB_false, go_sem])
    | (refine AW_ret ?_; simp [-List.getD_eq_getElem?_getD, -List.drop_one, ↓splitB_true, ↓splitB_false, go_sem, Try.results5])
    | (intro hx; change AW _ _ _ _ _ _)
    | (refine ⟨?_, ?_⟩ <;> change AW _ _ _ _ _ _)
    | (intro hx; refine ⟨fun hs => ?_, fun hs => ?_⟩)
    | (refine ⟨fun hs => ?_, fun hs => ?_⟩)
    | (refine ⟨?_, fun hs => ?_⟩; change AW _ _ _ _ _ _)
    | (refine ⟨fun hs => ?_, ?_⟩; rotate_left; change AW _ _ _ _ _ _; rotate_left)))
end Go.Proofs.Ytljncoikoffijaa.Vm

