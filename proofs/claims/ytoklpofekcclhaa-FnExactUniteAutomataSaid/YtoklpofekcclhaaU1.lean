/-
  Rows of Bools and of transitions cloned; an automaton copied. No conditions.
-/
import Derived.Test.YtoklpofekcclhaaN9
namespace Go.Proofs.Ytoklpofekcclhaa.Vm
open Go
set_option linter.unusedVariables false
set_option linter.unusedSimpArgs false
set_option maxRecDepth 200000

noncomputable def Γu0 : FuncId → Con := Γn13
attribute [go_sem] Γu0
theorem Γu0_ok : ∀ g, ConOk Try.prog g (Γu0 g) := Γn13_ok

theorem clipB_spec (xs : List Bool) (H : Hp) : Spec Try.prog 183 [fr 1 cB xs] H (fr 1 cB xs) H := by
  refine Spec.of_walk Try.func183 rfl (by simp [Try.f183]) fun B => ?_
  refine AW_mat 0 rfl fun b cp j hb hcp hj => ?_
  (repeat' (first
    | refine AW_seq ?_
    | refine AW_region (id := 0) Γu0_ok [] (by kernel_rfl) ?_; simp  [-List.getD_eq_getElem?_getD, -List.drop_one, ↓splitB_true, ↓splitB_false, go_sem]
    | refine AW_region (id := 1) Γu0_ok [] (by kernel_rfl) ?_; simp  [-List.getD_eq_getElem?_getD, -List.drop_one, ↓splitB_true, ↓splitB_false, go_sem, hcp, cat_take_app]; try (refine AW_unmat 2 (b := b) (all := cat cB xs ++ List.replicate j .any) rfl (by simp [go_sem]) (by omega) (by simp [cat_length]) (by simp [cat_length]) ?_)
    | (refine AW_block ?_)
    | (refine AW_exit ?_; simp [-List.getD_eq_getElem?_getD, -List.drop_one, ↓splitB_true, ↓splitB_false, go_sem])
    | (refine AW_skip ?_; simp [-List.getD_eq_getElem?_getD, -List.drop_one, ↓splitB_true, ↓splitB_false, go_sem])
    | (refine AW_ret ?_; simp [-List.getD_eq_getElem?_getD, -List.drop_one, ↓splitB_true, ↓splitB_false, go_sem, Try.results183])
    | (intro hx; change AW _ _ _ _ _ _)
    | (refine ⟨?_, ?_⟩ <;> change AW _ _ _ _ _ _)
    | (intro hx; refine ⟨fun hs => ?_, fun hs => ?_⟩)
    | (refine ⟨fun hs => ?_, fun hs => ?_⟩)
    | (refine ⟨?_, fun hs => ?_⟩; change AW _ _ _ _ _ _)
    | (refine ⟨fun hs => ?_, ?_⟩; rotate_left; change AW _ _ _ _ _ _; rotate_left)))
  all_goals (intro b' cs' h; refine ⟨?_, h⟩; rintro rfl; dsimp only at hb; rw [h] at hb; cases hb)
noncomputable def clipBC : Con := .gen fun args H => match args with
  | [.fr 1 n cs] => (Is cB n cs, fr 1 cB (de cB cs), H)
  | _ => (False, .any, H)
attribute [go_sem] clipBC
theorem clipBC_ok : ConOk Try.prog 183 clipBC := by
  refine ⟨callable Try.func183 (by decide) rfl, fun args H h => ?_⟩
  revert h
  dsimp only
  split
  · rintro ⟨xs, rfl, rfl⟩
    rw [de_cat]
    exact clipB_spec xs H
  · intro h
    exact h.elim
noncomputable def Γu1 : FuncId → Con := ext Γu0 183 clipBC
attribute [go_sem] Γu1
theorem Γu1_ok : ∀ g, ConOk Try.prog g (Γu1 g) := ext_ok Γu0_ok clipBC_ok

theorem CloneB_pure (xs : List Bool) (h0 : xs.length ≤ 1048576) : Pure Try.prog 184 [li cB xs] (fr 1 cB xs) := by
  refine Pure.of_walk Try.func184 rfl (by simp [Try.f184]) (by simp [-List.drop_one, go_sem]) fun B hK => ?_
  by_cases hn : xs = []
  all_goals (repeat' (first
    | refine AW_seq ?_
    | refine AW_region (id := 0) Γu1_ok [] (by kernel_rfl) ?_; simp  [-List.getD_eq_getElem?_getD, -List.drop_one, ↓splitB_true, ↓splitB_false, go_sem, hn]
    | refine AW_region (id := 1) Γu1_ok [] (by kernel_rfl) ?_; simp  [-List.getD_eq_getElem?_getD, -List.drop_one, ↓splitB_true, ↓splitB_false, go_sem, hn]
    | refine AW_region (id := 2) Γu1_ok [] (by kernel_rfl) ?_; simp  [-List.getD_eq_getElem?_getD, -List.drop_one, ↓splitB_true, ↓splitB_false, go_sem, hn]; try (try (refine AW_nilfr 2 1 rfl ?_))
    | refine AW_region (id := 3) Γu1_ok [] (by kernel_rfl) ?_; simp  [-List.getD_eq_getElem?_getD, -List.drop_one, ↓splitB_true, ↓splitB_false, go_sem, (by omega : xs.length ≤ 9223372036854775807), (by omega : 2 * xs.length * 1 ≤ 281474976710656), (by omega : 2 * xs.length ≤ 281474976710656), hn]
    | refine AW_condA (c := .tmp 4) ?_; simp [-List.getD_eq_getElem?_getD, -List.drop_one, ↓splitB_true, ↓splitB_false, go_sem, hn]; try first | (refine ⟨?_, ?_⟩ <;> change AW _ _ _ _ _ _) | (refine ⟨fun c4 => ?_, fun c4 => ?_⟩ <;> (try simp [B_iff, B_not] at c4))
    | (refine AW_block ?_)
    | (refine AW_exit ?_; simp [-List.getD_eq_getElem?_getD, -List.drop_one, ↓splitB_true, ↓splitB_false, go_sem])
    | (refine AW_skip ?_; simp [-List.getD_eq_getElem?_getD, -List.drop_one, ↓splitB_true, ↓splitB_false, go_sem])
    | (refine AW_ret ?_; simp [-List.getD_eq_getElem?_getD, -List.drop_one, ↓splitB_true, ↓splitB_false, go_sem, Try.results184, hn])
    | (intro hx; change AW _ _ _ _ _ _)
    | (refine ⟨?_, ?_⟩ <;> change AW _ _ _ _ _ _)
    | (intro hx; refine ⟨fun hs => ?_, fun hs => ?_⟩)
    | (refine ⟨fun hs => ?_, fun hs => ?_⟩)
    | (refine ⟨?_, fun hs => ?_⟩; change AW _ _ _ _ _ _)
    | (refine ⟨fun hs => ?_, ?_⟩; rotate_left; change AW _ _ _ _ _ _; rotate_left)))
noncomputable def CloneB_pureC : Con := .pure fun
  | [.list n_xs c_xs] => ((Is cB n_xs c_xs) ∧ ((de cB c_xs).length ≤ 1048576), fr 1 cB (de cB c_xs))
  | _ => (False, .any)
attribute [go_sem] CloneB_pureC
theorem CloneB_pureC_ok : ConOk Try.prog 184 CloneB_pureC := by
  refine ⟨callable Try.func184 (by decide) rfl, fun args h => ?_⟩
  revert h
  dsimp only
  split
  · intro h
    obtain ⟨⟨xs, rfl, rfl⟩, h0⟩ := h
    try simp only [de_cat] at *
    exact ⟨CloneB_pure xs h0, by simp [go_sem]⟩
  · intro h
    exact h.elim
noncomputable def Γu2 : FuncId → Con := ext Γu1 184 CloneB_pureC
attribute [go_sem] Γu2
theorem Γu2_ok : ∀ g, ConOk Try.prog g (Γu2 g) := ext_ok Γu1_ok CloneB_pureC_ok

theorem cloneB_pure (xs : List Bool) (h0 : xs.length ≤ 1048576) : Pure Try.prog 141 [li cB xs] (fr 1 cB xs) := by
  refine Pure.of_walk Try.func141 rfl (by simp [Try.f141]) (by simp [-List.drop_one, go_sem]) fun B hK => ?_
  (repeat' (first
    | refine AW_seq ?_
    | refine AW_region (id := 0) Γu2_ok [] (by kernel_rfl) ?_; simp  [-List.getD_eq_getElem?_getD, -List.drop_one, ↓splitB_true, ↓splitB_false, go_sem]
    | refine AW_region (id := 1) Γu2_ok [] (by kernel_rfl) ?_; simp  [-List.getD_eq_getElem?_getD, -List.drop_one, ↓splitB_true, ↓splitB_false, go_sem, h0]
    | (refine AW_block ?_)
    | (refine AW_exit ?_; simp [-List.getD_eq_getElem?_getD, -List.drop_one, ↓splitB_true, ↓splitB_false, go_sem])
    | (refine AW_skip ?_; simp [-List.getD_eq_getElem?_getD, -List.drop_one, ↓splitB_true, ↓splitB_false, go_sem])
    | (refine AW_ret ?_; simp [-List.getD_eq_getElem?_getD, -List.drop_one, ↓splitB_true, ↓splitB_false, go_sem, Try.results141])
    | (intro hx; change AW _ _ _ _ _ _)
    | (refine ⟨?_, ?_⟩ <;> change AW _ _ _ _ _ _)
    | (intro hx; refine ⟨fun hs => ?_, fun hs => ?_⟩)
    | (refine ⟨fun hs => ?_, fun hs => ?_⟩)
    | (refine ⟨?_, fun hs => ?_⟩; change AW _ _ _ _ _ _)
    | (refine ⟨fun hs => ?_, ?_⟩; rotate_left; change AW _ _ _ _ _ _; rotate_left)))
noncomputable def cloneB_pureC : Con := .pure fun
  | [.list n_xs c_xs] => ((Is cB n_xs c_xs) ∧ ((de cB c_xs).length ≤ 1048576), fr 1 cB (de cB c_xs))
  | _ => (False, .any)
attribute [go_sem] cloneB_pureC
theorem cloneB_pureC_ok : ConOk Try.prog 141 cloneB_pureC := by
  refine ⟨callable Try.func141 (by decide) rfl, fun args h => ?_⟩
  revert h
  dsimp only
  split
  · intro h
    obtain ⟨⟨xs, rfl, rfl⟩, h0⟩ := h
    try simp only [de_cat] at *
    exact ⟨cloneB_pure xs h0, by simp [go_sem]⟩
  · intro h
    exact h.elim
noncomputable def Γu3 : FuncId → Con := ext Γu2 141 cloneB_pureC
attribute [go_sem] Γu3
theorem Γu3_ok : ∀ g, ConOk Try.prog g (Γu3 g) := ext_ok Γu2_ok cloneB_pureC_ok

theorem clipT_spec (xs : List Tr4) (H : Hp) : Spec Try.prog 185 [fr 4 cT xs] H (fr 4 cT xs) H := by
  refine Spec.of_walk Try.func185 rfl (by simp [Try.f185]) fun B => ?_
  refine AW_mat 0 rfl fun b cp j hb hcp hj => ?_
  (repeat' (first
    | refine AW_seq ?_
    | refine AW_region (id := 0) Γu3_ok [] (by kernel_rfl) ?_; simp  [-List.getD_eq_getElem?_getD, -List.drop_one, ↓splitB_true, ↓splitB_false, go_sem]
    | refine AW_region (id := 1) Γu3_ok [] (by kernel_rfl) ?_; simp  [-List.getD_eq_getElem?_getD, -List.drop_one, ↓splitB_true, ↓splitB_false, go_sem, hcp, cat_take_app]; try (refine AW_unmat 2 (b := b) (all := cat cT xs ++ List.replicate j .any) rfl (by simp [go_sem]) (by omega) (by simp [cat_length]) (by simp [cat_length]) ?_)
    | (refine AW_block ?_)
    | (refine AW_exit ?_; simp [-List.getD_eq_getElem?_getD, -List.drop_one, ↓splitB_true, ↓splitB_false, go_sem])
    | (refine AW_skip ?_; simp [-List.getD_eq_getElem?_getD, -List.drop_one, ↓splitB_true, ↓splitB_false, go_sem])
    | (refine AW_ret ?_; simp [-List.getD_eq_getElem?_getD, -List.drop_one, ↓splitB_true, ↓splitB_false, go_sem, Try.results185])
    | (intro hx; change AW _ _ _ _ _ _)
    | (refine ⟨?_, ?_⟩ <;> change AW _ _ _ _ _ _)
    | (intro hx; refine ⟨fun hs => ?_, fun hs => ?_⟩)
    | (refine ⟨fun hs => ?_, fun hs => ?_⟩)
    | (refine ⟨?_, fun hs => ?_⟩; change AW _ _ _ _ _ _)
    | (refine ⟨fun hs => ?_, ?_⟩; rotate_left; change AW _ _ _ _ _ _; rotate_left)))
  all_goals (intro b' cs' h; refine ⟨?_, h⟩; rintro rfl; dsimp only at hb; rw [h] at hb; cases hb)
noncomputable def clipTC : Con := .gen fun args H => match args with
  | [.fr 4 n cs] => (Is cT n cs, fr 4 cT (de cT cs), H)
  | _ => (False, .any, H)
attribute [go_sem] clipTC
theorem clipTC_ok : ConOk Try.prog 185 clipTC := by
  refine ⟨callable Try.func185 (by decide) rfl, fun args H h => ?_⟩
  revert h
  dsimp only
  split
  · rintro ⟨xs, rfl, rfl⟩
    rw [de_cat]
    exact clipT_spec xs H
  · intro h
    exact h.elim
noncomputable def Γu4 : FuncId → Con := ext Γu3 185 clipTC
attribute [go_sem] Γu4
theorem Γu4_ok : ∀ g, ConOk Try.prog g (Γu4 g) := ext_ok Γu3_ok clipTC_ok

theorem CloneT_pure (xs : List Tr4) (h0 : xs.length ≤ 1048576) : Pure Try.prog 186 [li cT xs] (fr 4 cT xs) := by
  refine Pure.of_walk Try.func186 rfl (by simp [Try.f186]) (by simp [-List.drop_one, go_sem]) fun B hK => ?_
  by_cases hn : xs = []
  all_goals (repeat' (first
    | refine AW_seq ?_
    | refine AW_region (id := 0) Γu4_ok [] (by kernel_rfl) ?_; simp  [-List.getD_eq_getElem?_getD, -List.drop_one, ↓splitB_true, ↓splitB_false, go_sem, hn]
    | refine AW_region (id := 1) Γu4_ok [] (by kernel_rfl) ?_; simp  [-List.getD_eq_getElem?_getD, -List.drop_one, ↓splitB_true, ↓splitB_false, go_sem, hn]
    | refine AW_region (id := 2) Γu4_ok [] (by kernel_rfl) ?_; simp  [-List.getD_eq_getElem?_getD, -List.drop_one, ↓splitB_true, ↓splitB_false, go_sem, hn]; try (try (refine AW_nilfr 2 4 rfl ?_))
    | refine AW_region (id := 3) Γu4_ok [] (by kernel_rfl) ?_; simp  [-List.getD_eq_getElem?_getD, -List.drop_one, ↓splitB_true, ↓splitB_false, go_sem, (by omega : xs.length ≤ 9223372036854775807), (by omega : 2 * xs.length * 32 ≤ 281474976710656), (by omega : 2 * xs.length ≤ 281474976710656), hn]
    | refine AW_condA (c := .tmp 4) ?_; simp [-List.getD_eq_getElem?_getD, -List.drop_one, ↓splitB_true, ↓splitB_false, go_sem, hn]; try first | (refine ⟨?_, ?_⟩ <;> change AW _ _ _ _ _ _) | (refine ⟨fun c4 => ?_, fun c4 => ?_⟩ <;> (try simp [B_iff, B_not] at c4))
    | (refine AW_block ?_)
    | (refine AW_exit ?_; simp [-List.getD_eq_getElem?_getD, -List.drop_one, ↓splitB_true, ↓splitB_false, go_sem])
    | (refine AW_skip ?_; simp [-List.getD_eq_getElem?_getD, -List.drop_one, ↓splitB_true, ↓splitB_false, go_sem])
    | (refine AW_ret ?_; simp [-List.getD_eq_getElem?_getD, -List.drop_one, ↓splitB_true, ↓splitB_false, go_sem, Try.results186, hn])
    | (intro hx; change AW _ _ _ _ _ _)
    | (refine ⟨?_, ?_⟩ <;> change AW _ _ _ _ _ _)
    | (intro hx; refine ⟨fun hs => ?_, fun hs => ?_⟩)
    | (refine ⟨fun hs => ?_, fun hs => ?_⟩)
    | (refine ⟨?_, fun hs => ?_⟩; change AW _ _ _ _ _ _)
    | (refine ⟨fun hs => ?_, ?_⟩; rotate_left; change AW _ _ _ _ _ _; rotate_left)))
noncomputable def CloneT_pureC : Con := .pure fun
  | [.list n_xs c_xs] => ((Is cT n_xs c_xs) ∧ ((de cT c_xs).length ≤ 1048576), fr 4 cT (de cT c_xs))
  | _ => (False, .any)
attribute [go_sem] CloneT_pureC
theorem CloneT_pureC_ok : ConOk Try.prog 186 CloneT_pureC := by
  refine ⟨callable Try.func186 (by decide) rfl, fun args h => ?_⟩
  revert h
  dsimp only
  split
  · intro h
    obtain ⟨⟨xs, rfl, rfl⟩, h0⟩ := h
    try simp only [de_cat] at *
    exact ⟨CloneT_pure xs h0, by simp [go_sem]⟩
  · intro h
    exact h.elim
noncomputable def Γu5 : FuncId → Con := ext Γu4 186 CloneT_pureC
attribute [go_sem] Γu5
theorem Γu5_ok : ∀ g, ConOk Try.prog g (Γu5 g) := ext_ok Γu4_ok CloneT_pureC_ok

theorem cloneT_pure (xs : List Tr4) (h0 : xs.length ≤ 1048576) : Pure Try.prog 142 [li cT xs] (fr 4 cT xs) := by
  refine Pure.of_walk Try.func142 rfl (by simp [Try.f142]) (by simp [-List.drop_one, go_sem]) fun B hK => ?_
  (repeat' (first
    | refine AW_seq ?_
    | refine AW_region (id := 0) Γu5_ok [] (by kernel_rfl) ?_; simp  [-List.getD_eq_getElem?_getD, -List.drop_one, ↓splitB_true, ↓splitB_false, go_sem]
    | refine AW_region (id := 1) Γu5_ok [] (by kernel_rfl) ?_; simp  [-List.getD_eq_getElem?_getD, -List.drop_one, ↓splitB_true, ↓splitB_false, go_sem, h0]
    | (refine AW_block ?_)
    | (refine AW_exit ?_; simp [-List.getD_eq_getElem?_getD, -List.drop_one, ↓splitB_true, ↓splitB_false, go_sem])
    | (refine AW_skip ?_; simp [-List.getD_eq_getElem?_getD, -List.drop_one, ↓splitB_true, ↓splitB_false, go_sem])
    | (refine AW_ret ?_; simp [-List.getD_eq_getElem?_getD, -List.drop_one, ↓splitB_true, ↓splitB_false, go_sem, Try.results142])
    | (intro hx; change AW _ _ _ _ _ _)
    | (refine ⟨?_, ?_⟩ <;> change AW _ _ _ _ _ _)
    | (intro hx; refine ⟨fun hs => ?_, fun hs => ?_⟩)
    | (refine ⟨fun hs => ?_, fun hs => ?_⟩)
    | (refine ⟨?_, fun hs => ?_⟩; change AW _ _ _ _ _ _)
    | (refine ⟨fun hs => ?_, ?_⟩; rotate_left; change AW _ _ _ _ _ _; rotate_left)))
noncomputable def cloneT_pureC : Con := .pure fun
  | [.list n_xs c_xs] => ((Is cT n_xs c_xs) ∧ ((de cT c_xs).length ≤ 1048576), fr 4 cT (de cT c_xs))
  | _ => (False, .any)
attribute [go_sem] cloneT_pureC
theorem cloneT_pureC_ok : ConOk Try.prog 142 cloneT_pureC := by
  refine ⟨callable Try.func142 (by decide) rfl, fun args h => ?_⟩
  revert h
  dsimp only
  split
  · intro h
    obtain ⟨⟨xs, rfl, rfl⟩, h0⟩ := h
    try simp only [de_cat] at *
    exact ⟨cloneT_pure xs h0, by simp [go_sem]⟩
  · intro h
    exact h.elim
noncomputable def Γu6 : FuncId → Con := ext Γu5 142 cloneT_pureC
attribute [go_sem] Γu6
theorem Γu6_ok : ∀ g, ConOk Try.prog g (Γu6 g) := ext_ok Γu5_ok cloneT_pureC_ok

theorem copyOf_pure (a : List Int) (b : List Bool) (c : List Tr4) (h0 : a.length ≤ 1048576) (h1 : b.length ≤ 1048576) (h2 : c.length ≤ 1048576) : Pure Try.prog 75 [.st [li cI a, li cB b, li cT c]] (.st [fr 1 cI a, fr 1 cB b, fr 4 cT c]) := by
  refine Pure.of_walk Try.func75 rfl (by simp [Try.f75]) (by simp [-List.drop_one, go_sem]) fun B hK => ?_
  (repeat' (first
    | refine AW_seq ?_
    | refine AW_region (id := 0) Γu6_ok [] (by kernel_rfl) ?_; simp  [-List.getD_eq_getElem?_getD, -List.drop_one, ↓splitB_true, ↓splitB_false, go_sem, h0, h1, h2]; try (refine AW_data hK 1 ?_; simp [go_sem])
    | refine AW_region_draw (id := 1) Γu6_ok mixed [] [1] (by kernel_rfl) (by kernel_rfl) (by simp [-List.getD_eq_getElem?_getD, -List.drop_one, ↓splitB_true, ↓splitB_false, go_sem, h0, h1, h2]) ?_; simp  [-List.getD_eq_getElem?_getD, -List.drop_one, ↓splitB_true, ↓splitB_false, go_sem, h0, h1, h2]
    | (refine AW_block ?_)
    | (refine AW_exit ?_; simp [-List.getD_eq_getElem?_getD, -List.drop_one, ↓splitB_true, ↓splitB_false, go_sem])
    | (refine AW_skip ?_; simp [-List.getD_eq_getElem?_getD, -List.drop_one, ↓splitB_true, ↓splitB_false, go_sem])
    | (refine AW_ret ?_; simp [-List.getD_eq_getElem?_getD, -List.drop_one, ↓splitB_true, ↓splitB_false, go_sem, Try.results75, h0, h1, h2])
    | (intro hx; change AW _ _ _ _ _ _)
    | (refine ⟨?_, ?_⟩ <;> change AW _ _ _ _ _ _)
    | (intro hx; refine ⟨fun hs => ?_, fun hs => ?_⟩)
    | (refine ⟨fun hs => ?_, fun hs => ?_⟩)
    | (refine ⟨?_, fun hs => ?_⟩; change AW _ _ _ _ _ _)
    | (refine ⟨fun hs => ?_, ?_⟩; rotate_left; change AW _ _ _ _ _ _; rotate_left)))
noncomputable def copyOf_pureC : Con := .pure fun
  | [.st [.list n_a c_a, .list n_b c_b, .list n_c c_c]] => ((Is cI n_a c_a) ∧ (Is cB n_b c_b) ∧ (Is cT n_c c_c) ∧ ((de cI c_a).length ≤ 1048576) ∧ ((de cB c_b).length ≤ 1048576) ∧ ((de cT c_c).length ≤ 1048576), .st [fr 1 cI (de cI c_a), fr 1 cB (de cB c_b), fr 4 cT (de cT c_c)])
  | _ => (False, .any)
attribute [go_sem] copyOf_pureC
theorem copyOf_pureC_ok : ConOk Try.prog 75 copyOf_pureC := by
  refine ⟨callable Try.func75 (by decide) rfl, fun args h => ?_⟩
  revert h
  dsimp only
  split
  · intro h
    obtain ⟨⟨a, rfl, rfl⟩, ⟨b, rfl, rfl⟩, ⟨c, rfl, rfl⟩, h0, h1, h2⟩ := h
    try simp only [de_cat] at *
    exact ⟨copyOf_pure a b c h0 h1 h2, by simp [go_sem]⟩
  · intro h
    exact h.elim
noncomputable def Γu7 : FuncId → Con := ext Γu6 75 copyOf_pureC
attribute [go_sem] Γu7
theorem Γu7_ok : ∀ g, ConOk Try.prog g (Γu7 g) := ext_ok Γu6_ok copyOf_pureC_ok

end Go.Proofs.Ytoklpofekcclhaa.Vm

