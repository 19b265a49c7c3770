/-
  Traces' kit; lists cloned; marks of lists. No conditions.
-/
import Derived.Test.YtljncoikoffijaaF7
namespace Go.Proofs.Ytljncoikoffijaa.Vm
open Go
set_option linter.unusedVariables false
set_option linter.unusedSimpArgs false
set_option maxRecDepth 200000

theorem szTrace_pure (a : List Int) (b : List Int) (left : Int) (h0 : -1 ≤ left) (h1 : left ≤ 1048576) : Pure Try.prog 49 [.st [li cI a, li cI b], .int .i64 left] (.int .i64 (szOf left (a.length + b.length))) := by
  refine Pure.of_walk Try.func49 rfl (by simp [Try.f49]) (by simp [-List.drop_one, go_sem]) fun B hK => ?_
  (repeat' (first
    | refine AW_seq ?_
    | refine AW_region (id := 0) Γ50_ok [] (by kernel_rfl) ?_; simp  [-List.getD_eq_getElem?_getD, -List.drop_one, ↓splitB_true, ↓splitB_false, go_sem]; try (refine AW_data hK 2 ?_; simp [go_sem])
    | refine AW_region (id := 1) Γ50_ok [] (by kernel_rfl) ?_; simp  [-List.getD_eq_getElem?_getD, -List.drop_one, ↓splitB_true, ↓splitB_false, go_sem, h0, h1]
    | refine AW_region (id := 2) Γ50_ok [] (by kernel_rfl) ?_; simp  [-List.getD_eq_getElem?_getD, -List.drop_one, ↓splitB_true, ↓splitB_false, go_sem]
    | refine AW_region (id := 3) Γ50_ok [] (by kernel_rfl) ?_; simp  [-List.getD_eq_getElem?_getD, -List.drop_one, ↓splitB_true, ↓splitB_false, go_sem]
    | refine AW_region (id := 4) Γ50_ok [] (by kernel_rfl) ?_; simp  [-List.getD_eq_getElem?_getD, -List.drop_one, ↓splitB_true, ↓splitB_false, go_sem, szOf_lo h0, szOf_hi h1]
    | refine AW_region (id := 5) Γ50_ok [] (by kernel_rfl) ?_; simp  [-List.getD_eq_getElem?_getD, -List.drop_one, ↓splitB_true, ↓splitB_false, go_sem]
    | refine AW_region (id := 6) Γ50_ok [] (by kernel_rfl) ?_; simp  [-List.getD_eq_getElem?_getD, -List.drop_one, ↓splitB_true, ↓splitB_false, go_sem]
    | refine AW_region (id := 7) Γ50_ok [] (by kernel_rfl) ?_; simp  [-List.getD_eq_getElem?_getD, -List.drop_one, ↓splitB_true, ↓splitB_false, go_sem, szOf_szOf h0]
    | refine AW_condA (c := .tmp 10) ?_; simp [-List.getD_eq_getElem?_getD, -List.drop_one, ↓splitB_true, ↓splitB_false, go_sem]; try first | (refine ⟨?_, ?_⟩ <;> change AW _ _ _ _ _ _) | (refine ⟨fun c10 => ?_, fun c10 => ?_⟩ <;> (try simp [B_iff, B_not] at c10))
    | refine AW_condA (c := .tmp 16) ?_; simp [-List.getD_eq_getElem?_getD, -List.drop_one, ↓splitB_true, ↓splitB_false, go_sem]; try first | (refine ⟨?_, ?_⟩ <;> change AW _ _ _ _ _ _) | (refine ⟨fun c16 => ?_, fun c16 => ?_⟩ <;> (try simp [B_iff, B_not] at c16))
    | (refine AW_block ?_)
    | (refine AW_exit ?_; simp [-List.getD_eq_getElem?_getD, -List.drop_one, ↓splitB_true, ↓splitB_false, go_sem])
    | (refine AW_skip ?_; simp [-List.getD_eq_getElem?_getD, -List.drop_one, ↓splitB_true, ↓splitB_false, go_sem])
    | (refine AW_ret ?_; simp [-List.getD_eq_getElem?_getD, -List.drop_one, ↓splitB_true, ↓splitB_false, go_sem, Try.results49])
    | (intro hx; change AW _ _ _ _ _ _)
    | (refine ⟨?_, ?_⟩ <;> change AW _ _ _ _ _ _)
    | (intro hx; refine ⟨fun hs => ?_, fun hs => ?_⟩)
    | (refine ⟨fun hs => ?_, fun hs => ?_⟩)
    | (refine ⟨?_, fun hs => ?_⟩; change AW _ _ _ _ _ _)
    | (refine ⟨fun hs => ?_, ?_⟩; rotate_left; change AW _ _ _ _ _ _; rotate_left)))
  all_goals (first
    | exact (szOf_neg (by assumption) h0 (by omega)).symm
    | (rw [szOf_szOf h0] at *; exact (szOf_neg (by assumption) h0 (by omega)).symm)
    | (rw [szOf_szOf h0])
    | skip)
noncomputable def szTrace_pureC : Con := .pure fun
  | [.st [.list n_a c_a, .list n_b c_b], .int .i64 left] => ((Is cI n_a c_a) ∧ (Is cI n_b c_b) ∧ (-1 ≤ left) ∧ (left ≤ 1048576), .int .i64 (szOf left ((de cI c_a).length + (de cI c_b).length)))
  | _ => (False, .any)
attribute [go_sem] szTrace_pureC
theorem szTrace_pureC_ok : ConOk Try.prog 49 szTrace_pureC := by
  refine ⟨callable Try.func49 (by decide) rfl, fun args h => ?_⟩
  revert h
  dsimp only
  split
  · intro h
    obtain ⟨⟨a, rfl, rfl⟩, ⟨b, rfl, rfl⟩, h0, h1⟩ := h
    try simp only [de_cat] at *
    exact ⟨szTrace_pure a b _ h0 h1, by simp [go_sem]⟩
  · intro h
    exact h.elim
noncomputable def Γg1 : FuncId → Con := ext Γ50 49 szTrace_pureC
attribute [go_sem] Γg1
theorem Γg1_ok : ∀ g, ConOk Try.prog g (Γg1 g) := ext_ok Γ50_ok szTrace_pureC_ok

theorem toTrace_pure (a : List Int) (b : List Int) (h0 : a.length ≤ 1048576) (h1 : b.length ≤ 1048576) : Pure Try.prog 51 [.st [li cI a, li cI b]] (.st [fr 1 cI a, fr 1 cI b]) := by
  refine Pure.of_walk Try.func51 rfl (by simp [Try.f51]) (by simp [-List.drop_one, go_sem]) fun B hK => ?_
  (repeat' (first
    | refine AW_seq ?_
    | refine AW_region (id := 0) Γg1_ok [] (by kernel_rfl) ?_; simp  [-List.getD_eq_getElem?_getD, -List.drop_one, ↓splitB_true, ↓splitB_false, go_sem]; try (refine AW_data hK 1 ?_; simp [go_sem])
    | refine AW_region (id := 1) Γg1_ok [] (by kernel_rfl) ?_; simp  [-List.getD_eq_getElem?_getD, -List.drop_one, ↓splitB_true, ↓splitB_false, go_sem]; try (refine AW_matBox 3 rfl fun b3 hb3 => ?_)
    | refine AW_region (id := 2) Γg1_ok [] (by kernel_rfl) ?_; simp  [-List.getD_eq_getElem?_getD, -List.drop_one, ↓splitB_true, ↓splitB_false, go_sem, h0, h1]
    | refine AW_region (id := 3) Γg1_ok [] (by kernel_rfl) ?_; simp  [-List.getD_eq_getElem?_getD, -List.drop_one, ↓splitB_true, ↓splitB_false, go_sem, h0, h1]
    | refine AW_region (id := 4) Γg1_ok [] (by kernel_rfl) ?_; simp  [-List.getD_eq_getElem?_getD, -List.drop_one, ↓splitB_true, ↓splitB_false, go_sem]
    | (refine AW_block ?_)
    | (refine AW_exit ?_; simp [-List.getD_eq_getElem?_getD, -List.drop_one, ↓splitB_true, ↓splitB_false, go_sem])
    | (refine AW_skip ?_; simp [-List.getD_eq_getElem?_getD, -List.drop_one, ↓splitB_true, ↓splitB_false, go_sem])
    | (refine AW_ret ?_; simp [-List.getD_eq_getElem?_getD, -List.drop_one, ↓splitB_true, ↓splitB_false, go_sem, Try.results51])
    | (intro hx; change AW _ _ _ _ _ _)
    | (refine ⟨?_, ?_⟩ <;> change AW _ _ _ _ _ _)
    | (intro hx; refine ⟨fun hs => ?_, fun hs => ?_⟩)
    | (refine ⟨fun hs => ?_, fun hs => ?_⟩)
    | (refine ⟨?_, fun hs => ?_⟩; change AW _ _ _ _ _ _)
    | (refine ⟨fun hs => ?_, ?_⟩; rotate_left; change AW _ _ _ _ _ _; rotate_left)))
noncomputable def toTrace_pureC : Con := .pure fun
  | [.st [.list n_a c_a, .list n_b c_b]] => ((Is cI n_a c_a) ∧ (Is cI n_b c_b) ∧ ((de cI c_a).length ≤ 1048576) ∧ ((de cI c_b).length ≤ 1048576), .st [fr 1 cI (de cI c_a), fr 1 cI (de cI c_b)])
  | _ => (False, .any)
attribute [go_sem] toTrace_pureC
theorem toTrace_pureC_ok : ConOk Try.prog 51 toTrace_pureC := by
  refine ⟨callable Try.func51 (by decide) rfl, fun args h => ?_⟩
  revert h
  dsimp only
  split
  · intro h
    obtain ⟨⟨a, rfl, rfl⟩, ⟨b, rfl, rfl⟩, h0, h1⟩ := h
    try simp only [de_cat] at *
    exact ⟨toTrace_pure a b h0 h1, by simp [go_sem]⟩
  · intro h
    exact h.elim
noncomputable def Γg2 : FuncId → Con := ext Γg1 51 toTrace_pureC
attribute [go_sem] Γg2
theorem Γg2_ok : ∀ g, ConOk Try.prog g (Γg2 g) := ext_ok Γg1_ok toTrace_pureC_ok

theorem eqTrace_pure (a : List Int) (b : List Int) (c : List Int) (d : List Int)  : Pure Try.prog 53 [.st [li cI a, li cI b], .st [li cI c, li cI d]] (.bool (decide (a = c) && decide (b = d))) := by
  refine Pure.of_walk Try.func53 rfl (by simp [Try.f53]) (by simp [-List.drop_one, go_sem]) fun B hK => ?_
  (repeat' (first
    | refine AW_seq ?_
    | refine AW_region (id := 0) Γg2_ok [] (by kernel_rfl) ?_; simp  [-List.getD_eq_getElem?_getD, -List.drop_one, ↓splitB_true, ↓splitB_false, go_sem]; try (refine AW_data hK 2 ?_; simp [go_sem]; refine AW_data hK 3 ?_; simp [go_sem])
    | refine AW_region (id := 1) Γg2_ok [] (by kernel_rfl) ?_; simp  [-List.getD_eq_getElem?_getD, -List.drop_one, ↓splitB_true, ↓splitB_false, go_sem]
    | refine AW_region (id := 2) Γg2_ok [] (by kernel_rfl) ?_; simp  [-List.getD_eq_getElem?_getD, -List.drop_one, ↓splitB_true, ↓splitB_false, go_sem]
    | refine AW_region (id := 3) Γg2_ok [] (by kernel_rfl) ?_; simp  [-List.getD_eq_getElem?_getD, -List.drop_one, ↓splitB_true, ↓splitB_false, go_sem]
    | refine AW_region (id := 4) Γg2_ok [] (by kernel_rfl) ?_; simp  [-List.getD_eq_getElem?_getD, -List.drop_one, ↓splitB_true, ↓splitB_false, go_sem]
    | refine AW_region (id := 5) Γg2_ok [] (by kernel_rfl) ?_; simp  [-List.getD_eq_getElem?_getD, -List.drop_one, ↓splitB_true, ↓splitB_false, go_sem]
    | refine AW_condA (c := .tmp 10) ?_; simp [-List.getD_eq_getElem?_getD, -List.drop_one, ↓splitB_true, ↓splitB_false, go_sem]; try first | (refine ⟨?_, ?_⟩ <;> change AW _ _ _ _ _ _) | (refine ⟨fun c10 => ?_, fun c10 => ?_⟩ <;> (try simp [B_iff, B_not] at c10))
    | refine AW_condA (c := .tmp 16) ?_; simp [-List.getD_eq_getElem?_getD, -List.drop_one, ↓splitB_true, ↓splitB_false, go_sem]; try first | (refine ⟨?_, ?_⟩ <;> change AW _ _ _ _ _ _) | (refine ⟨fun c16 => ?_, fun c16 => ?_⟩ <;> (try simp [B_iff, B_not] at c16))
    | (refine AW_block ?_)
    | (refine AW_exit ?_; simp [-List.getD_eq_getElem?_getD, -List.drop_one, ↓splitB_true, ↓splitB_false, go_sem])
    | (refine AW_skip ?_; simp [-List.getD_eq_getElem?_getD, -List.drop_one, ↓splitB_true, ↓splitB_false, go_sem])
    | (refine AW_ret ?_; simp [-List.getD_eq_getElem?_getD, -List.drop_one, ↓splitB_true, ↓splitB_false, go_sem, Try.results53])
    | (intro hx; change AW _ _ _ _ _ _)
    | (refine ⟨?_, ?_⟩ <;> change AW _ _ _ _ _ _)
    | (intro hx; refine ⟨fun hs => ?_, fun hs => ?_⟩)
    | (refine ⟨fun hs => ?_, fun hs => ?_⟩)
    | (refine ⟨?_, fun hs => ?_⟩; change AW _ _ _ _ _ _)
    | (refine ⟨fun hs => ?_, ?_⟩; rotate_left; change AW _ _ _ _ _ _; rotate_left)))
  all_goals (first
    | (simp_all; done)
    | (intros; simp_all; done)
    | skip)
noncomputable def eqTrace_pureC : Con := .pure fun
  | [.st [.list n_a c_a, .list n_b c_b], .st [.list n_c c_c, .list n_d c_d]] => ((Is cI n_a c_a) ∧ (Is cI n_b c_b) ∧ (Is cI n_c c_c) ∧ (Is cI n_d c_d), .bool (decide ((de cI c_a) = (de cI c_c)) && decide ((de cI c_b) = (de cI c_d))))
  | _ => (False, .any)
attribute [go_sem] eqTrace_pureC
theorem eqTrace_pureC_ok : ConOk Try.prog 53 eqTrace_pureC := by
  refine ⟨callable Try.func53 (by decide) rfl, fun args h => ?_⟩
  revert h
  dsimp only
  split
  · intro h
    obtain ⟨⟨a, rfl, rfl⟩, ⟨b, rfl, rfl⟩, ⟨c, rfl, rfl⟩, ⟨d, rfl, rfl⟩⟩ := h
    try simp only [de_cat] at *
    exact ⟨eqTrace_pure a b c d, by simp [go_sem]⟩
  · intro h
    exact h.elim
noncomputable def Γg3 : FuncId → Con := ext Γg2 53 eqTrace_pureC
attribute [go_sem] Γg3
theorem Γg3_ok : ∀ g, ConOk Try.prog g (Γg3 g) := ext_ok Γg2_ok eqTrace_pureC_ok

theorem clip_spec (xs : List Int) (H : Hp) : Spec Try.prog 113 [fr 1 cI xs] H (fr 1 cI xs) H := by
  refine Spec.of_walk Try.func113 rfl (by simp [Try.f113]) fun B => ?_
  refine AW_mat 0 rfl fun b cp j hb hcp hj => ?_
  (repeat' (first
    | refine AW_seq ?_
    | refine AW_region (id := 0) Γg3_ok [] (by kernel_rfl) ?_; simp  [-List.getD_eq_getElem?_getD, -List.drop_one, ↓splitB_true, ↓splitB_false, go_sem]
    | refine AW_region (id := 1) Γg3_ok [] (by kernel_rfl) ?_; simp  [-List.getD_eq_getElem?_getD, -List.drop_one, ↓splitB_true, ↓splitB_false, go_sem, hcp]; try (refine AW_unmat 2 (b := b) (all := cat cI xs ++ List.replicate j .any) rfl (by simp [go_sem]) (by omega) (by simp [cat_length]) (by simp [cat_length]) ?_)
    | (refine AW_block ?_)
    | (refine AW_exit ?_; simp [-List.getD_eq_getElem?_getD, -List.drop_one, ↓splitB_true, ↓splitB_false, go_sem])
    | (refine AW_skip ?_; simp [-List.getD_eq_getElem?_getD, -List.drop_one, ↓splitB_true, ↓splitB_false, go_sem])
    | (refine AW_ret ?_; simp [-List.getD_eq_getElem?_getD, -List.drop_one, ↓splitB_true, ↓splitB_false, go_sem, Try.results113])
    | (intro hx; change AW _ _ _ _ _ _)
    | (refine ⟨?_, ?_⟩ <;> change AW _ _ _ _ _ _)
    | (intro hx; refine ⟨fun hs => ?_, fun hs => ?_⟩)
    | (refine ⟨fun hs => ?_, fun hs => ?_⟩)
    | (refine ⟨?_, fun hs => ?_⟩; change AW _ _ _ _ _ _)
    | (refine ⟨fun hs => ?_, ?_⟩; rotate_left; change AW _ _ _ _ _ _; rotate_left)))
  all_goals (intro b' cs' h; refine ⟨?_, h⟩; rintro rfl; dsimp only at hb; rw [h] at hb; cases hb)
noncomputable def clipC : Con := .gen fun args H => match args with
  | [.fr 1 n cs] => (Is cI n cs, fr 1 cI (de cI cs), H)
  | _ => (False, .any, H)
attribute [go_sem] clipC
theorem clipC_ok : ConOk Try.prog 113 clipC := by
  refine ⟨callable Try.func113 (by decide) rfl, fun args H h => ?_⟩
  revert h
  dsimp only
  split
  · rintro ⟨xs, rfl, rfl⟩
    rw [de_cat]
    exact clip_spec xs H
  · intro h
    exact h.elim
noncomputable def Γg4 : FuncId → Con := ext Γg3 113 clipC
attribute [go_sem] Γg4
theorem Γg4_ok : ∀ g, ConOk Try.prog g (Γg4 g) := ext_ok Γg3_ok clipC_ok

@[go_sem] theorem cat_isEmpty {α : Type} {f : α → List D} {sz : Nat} [Wide f sz] (xs : List α) : (cat f xs).isEmpty = xs.isEmpty := by
  rw [Bool.eq_iff_iff, List.isEmpty_iff, List.isEmpty_iff]
  have := cat_nil_iff (f := f) xs
  rw [this]
theorem Clone_pure (xs : List Int) (h0 : xs.length ≤ 1048576) : Pure Try.prog 158 [li cI xs] (fr 1 cI xs) := by
  refine Pure.of_walk Try.func158 rfl (by simp [Try.f158]) (by simp [-List.drop_one, go_sem]) fun B hK => ?_
  by_cases hn : xs = []
  all_goals (repeat' (first
    | refine AW_seq ?_
    | refine AW_region (id := 0) Γg4_ok [] (by kernel_rfl) ?_; simp  [-List.getD_eq_getElem?_getD, -List.drop_one, ↓splitB_true, ↓splitB_false, go_sem, hn]
    | refine AW_region (id := 1) Γg4_ok [] (by kernel_rfl) ?_; simp  [-List.getD_eq_getElem?_getD, -List.drop_one, ↓splitB_true, ↓splitB_false, go_sem, hn]
    | refine AW_region (id := 2) Γg4_ok [] (by kernel_rfl) ?_; simp  [-List.getD_eq_getElem?_getD, -List.drop_one, ↓splitB_true, ↓splitB_false, go_sem, hn]; try (try (refine AW_nilfr 2 1 rfl ?_))
    | refine AW_region (id := 3) Γg4_ok [] (by kernel_rfl) ?_; simp  [-List.getD_eq_getElem?_getD, -List.drop_one, ↓splitB_true, ↓splitB_false, go_sem, (by omega : xs.length ≤ 9223372036854775807), (by omega : 2 * xs.length * 8 ≤ 281474976710656), hn]
    | refine AW_condA (c := .tmp 4) ?_; simp [-List.getD_eq_getElem?_getD, -List.drop_one, ↓splitB_true, ↓splitB_false, go_sem, hn]; try first | (refine ⟨?_, ?_⟩ <;> change AW _ _ _ _ _ _) | (refine ⟨fun c4 => ?_, fun c4 => ?_⟩ <;> (try simp [B_iff, B_not] at c4))
    | (refine AW_block ?_)
    | (refine AW_exit ?_; simp [-List.getD_eq_getElem?_getD, -List.drop_one, ↓splitB_true, ↓splitB_false, go_sem])
    | (refine AW_skip ?_; simp [-List.getD_eq_getElem?_getD, -List.drop_one, ↓splitB_true, ↓splitB_false, go_sem])
    | (refine AW_ret ?_; simp [-List.getD_eq_getElem?_getD, -List.drop_one, ↓splitB_true, ↓splitB_false, go_sem, Try.results158, hn])
    | (intro hx; change AW _ _ _ _ _ _)
    | (refine ⟨?_, ?_⟩ <;> change AW _ _ _ _ _ _)
    | (intro hx; refine ⟨fun hs => ?_, fun hs => ?_⟩)
    | (refine ⟨fun hs => ?_, fun hs => ?_⟩)
    | (refine ⟨?_, fun hs => ?_⟩; change AW _ _ _ _ _ _)
    | (refine ⟨fun hs => ?_, ?_⟩; rotate_left; change AW _ _ _ _ _ _; rotate_left)))
noncomputable def Clone_pureC : Con := .pure fun
  | [.list n_xs c_xs] => ((Is cI n_xs c_xs) ∧ ((de cI c_xs).length ≤ 1048576), fr 1 cI (de cI c_xs))
  | _ => (False, .any)
attribute [go_sem] Clone_pureC
theorem Clone_pureC_ok : ConOk Try.prog 158 Clone_pureC := by
  refine ⟨callable Try.func158 (by decide) rfl, fun args h => ?_⟩
  revert h
  dsimp only
  split
  · intro h
    obtain ⟨⟨xs, rfl, rfl⟩, h0⟩ := h
    try simp only [de_cat] at *
    exact ⟨Clone_pure xs h0, by simp [go_sem]⟩
  · intro h
    exact h.elim
noncomputable def Γg5 : FuncId → Con := ext Γg4 158 Clone_pureC
attribute [go_sem] Γg5
theorem Γg5_ok : ∀ g, ConOk Try.prog g (Γg5 g) := ext_ok Γg4_ok Clone_pureC_ok

theorem clone_pure (xs : List Int) (h0 : xs.length ≤ 1048576) : Pure Try.prog 143 [li cI xs] (fr 1 cI xs) := by
  refine Pure.of_walk Try.func143 rfl (by simp [Try.f143]) (by simp [-List.drop_one, go_sem]) fun B hK => ?_
  (repeat' (first
    | refine AW_seq ?_
    | refine AW_region (id := 0) Γg5_ok [] (by kernel_rfl) ?_; simp  [-List.getD_eq_getElem?_getD, -List.drop_one, ↓splitB_true, ↓splitB_false, go_sem]
    | refine AW_region (id := 1) Γg5_ok [] (by kernel_rfl) ?_; simp  [-List.getD_eq_getElem?_getD, -List.drop_one, ↓splitB_true, ↓splitB_false, go_sem, h0]
    | (refine AW_block ?_)
    | (refine AW_exit ?_; simp [-List.getD_eq_getElem?_getD, -List.drop_one, ↓splitB_true, ↓splitB_false, go_sem])
    | (refine AW_skip ?_; simp [-List.getD_eq_getElem?_getD, -List.drop_one, ↓splitB_true, ↓splitB_false, go_sem])
    | (refine AW_ret ?_; simp [-List.getD_eq_getElem?_getD, -List.drop_one, ↓splitB_true, ↓splitB_false, go_sem, Try.results143])
    | (intro hx; change AW _ _ _ _ _ _)
    | (refine ⟨?_, ?_⟩ <;> change AW _ _ _ _ _ _)
    | (intro hx; refine ⟨fun hs => ?_, fun hs => ?_⟩)
    | (refine ⟨fun hs => ?_, fun hs => ?_⟩)
    | (refine ⟨?_, fun hs => ?_⟩; change AW _ _ _ _ _ _)
    | (refine ⟨fun hs => ?_, ?_⟩; rotate_left; change AW _ _ _ _ _ _; rotate_left)))
noncomputable def clone_pureC : Con := .pure fun
  | [.list n_xs c_xs] => ((Is cI n_xs c_xs) ∧ ((de cI c_xs).length ≤ 1048576), fr 1 cI (de cI c_xs))
  | _ => (False, .any)
attribute [go_sem] clone_pureC
theorem clone_pureC_ok : ConOk Try.prog 143 clone_pureC := by
  refine ⟨callable Try.func143 (by decide) rfl, fun args h => ?_⟩
  revert h
  dsimp only
  split
  · intro h
    obtain ⟨⟨xs, rfl, rfl⟩, h0⟩ := h
    try simp only [de_cat] at *
    exact ⟨clone_pure xs h0, by simp [go_sem]⟩
  · intro h
    exact h.elim
noncomputable def Γg6 : FuncId → Con := ext Γg5 143 clone_pureC
attribute [go_sem] Γg6
theorem Γg6_ok : ∀ g, ConOk Try.prog g (Γg6 g) := ext_ok Γg5_ok clone_pureC_ok

/-- n numbers from k on. -/
def marks (k : Int) (n : Nat) : List Int := (List.range n).map fun (i : Nat) => k + i
theorem marks_len (k : Int) (n : Nat) : (marks k n).length = n := by simp [marks]
theorem nth_marks {k : Int} {n i : Nat} (h : i < n) : nth (marks k n) i = k + i := by rw [nth_lt (by rw [marks_len]; exact h)]; simp [marks]
/-- The list, its first i numbers marked. -/
def mk (k : Int) (xs : List Int) (i : Nat) : List Int := marks k i ++ xs.drop i
theorem mk_zero (k : Int) (xs : List Int) : mk k xs 0 = xs := by simp [mk, marks]
theorem mk_all (k : Int) (xs : List Int) : mk k xs xs.length = marks k xs.length := by simp [mk]
theorem mk_len {k : Int} {xs : List Int} {i : Nat} (h : i < xs.length) : (mk k xs i).length = xs.length := by simp [mk, marks_len]; omega
theorem mk_store {k : Int} {xs : List Int} {i : Nat} (h : i < xs.length) (junk : List D) : stSeg (cat cI (mk k xs i) ++ junk) i [.int .i64 (k + i)] = cat cI (mk k xs (i + 1)) ++ junk := by
  unfold stSeg
  have e : cat cI (mk k xs i) ++ junk = cat cI (marks k i) ++ (cat cI (xs.drop i) ++ junk) := by rw [mk, cat_append, List.append_assoc]
  have l : (cat cI (marks k i)).length = i := by rw [cat_length, marks_len]; omega
  have q := setSeg_app (cat cI (marks k i)) [.int .i64 (k + i)] (cat cI (xs.drop i) ++ junk) (by rw [List.length_append, cat_length]; simp; omega)
  rw [l] at q
  rw [e, q, cat_split h, mk]
  have m : marks k (i + 1) = marks k i ++ [k + i] := by simp [marks, List.range_succ]
  rw [m, cat_append, cat_append, cat_one]
  simp [cI]
@[go_sem] theorem cat_drop_app1 {α : Type} {f : α → List D} [Wide f 1] (xs : List α) (ys : List D) : (cat f xs ++ ys).drop xs.length = ys := by
  have := cat_length (f := f) xs
  rw [Nat.mul_one] at this
  rw [← this, List.drop_left']; rfl

theorem markI_spec (xs : List Int) (k : Int) (b cp : Nat) (junk : List D) (H : Hp) (hH : H b = some (cat cI xs ++ junk)) (h0 : 0 ≤ k) (h1 : k + xs.length ≤ 1099511627776) :
    Spec Try.prog 41 [.sl b 1 0 xs.length cp, .int .i64 k] H (.int .i64 (k + xs.length)) (upd H b (some (cat cI (marks k xs.length) ++ junk))) := by
  refine Spec.of_walk Try.func41 rfl (by simp [Try.f41]) fun B => ?_
  (repeat' (first
    | refine AW_seq ?_
    | refine AW_region (id := 0) Γg6_ok [] (by kernel_rfl) ?_; simp  [-List.getD_eq_getElem?_getD, -List.drop_one, ↓splitB_true, ↓splitB_false, go_sem]
    | refine AW_region (id := 1) Γg6_ok [] (by kernel_rfl) ?_; simp  [-List.getD_eq_getElem?_getD, -List.drop_one, ↓splitB_true, ↓splitB_false, go_sem]
    | refine AW_region (id := 2) Γg6_ok [] (by kernel_rfl) ?_; simp  [-List.getD_eq_getElem?_getD, -List.drop_one, ↓splitB_true, ↓splitB_false, go_sem]
    | refine AW_region (id := 4) Γg6_ok [] (by kernel_rfl) ?_; simp  [-List.getD_eq_getElem?_getD, -List.drop_one, ↓splitB_true, ↓splitB_false, go_sem, c9, ne_nil c9, Nat.sub_pos_of_lt c9, mk_len c9, mk_store c9, (show i + 1 ≤ xs.length + junk.length by omega), (show i < xs.length + junk.length by omega)]
    | refine AW_region (id := 5) Γg6_ok [] (by kernel_rfl) ?_; simp  [-List.getD_eq_getElem?_getD, -List.drop_one, ↓splitB_true, ↓splitB_false, go_sem, wrap_in (x := k + (i : Int) + 1) (by omega) (by omega)]
    | refine AW_region (id := 3) Γg6_ok [] (by kernel_rfl) ?_; simp  [-List.getD_eq_getElem?_getD, -List.drop_one, ↓splitB_true, ↓splitB_false, go_sem, wrapS (k := i) (by omega)]
    | refine AW_region (id := 6) Γg6_ok [] (by kernel_rfl) ?_; simp  [-List.getD_eq_getElem?_getD, -List.drop_one, ↓splitB_true, ↓splitB_false, go_sem]
    | refine AW_condA (c := .tmp 9) ?_; simp [-List.getD_eq_getElem?_getD, -List.drop_one, ↓splitB_true, ↓splitB_false, go_sem]; try first | (refine ⟨?_, ?_⟩ <;> change AW _ _ _ _ _ _) | (refine ⟨fun c9 => ?_, fun c9 => ?_⟩ <;> (try simp [B_iff, B_not] at c9))
    | (refine AW_block (id := 0) (AW_loop (ι := Nat) (fun i : Nat => ⟨(upd (upd (upd (fun _ => .any) 0 (.sl b 1 0 xs.length cp)) 1 (.int .i64 (k + i))) 5 (.int .i64 i)), upd H b (some (cat cI (mk k xs i) ++ junk))⟩) (fun i => i ≤ xs.length) (fun i => xs.length - i) (0) ?_ ?_ ?_); exact Nat.zero_le _; ((repeat' (first | exact sub_noneH (by assumption) | exact sub_none | refine sub_upd ?_ ?_ | refine sub_noneE ?_)) <;> simp [-List.getD_eq_getElem?_getD, -List.drop_one, ↓splitB_true, ↓splitB_false, go_sem, mk_zero, upd_self hH]); rintro i hi)
    | (refine ⟨i + 1, by omega, by first | omega | (simp; done) | (simp; omega), ?_⟩; ((repeat' (first | exact sub_noneH (by assumption) | exact sub_none | refine sub_upd ?_ ?_ | refine sub_noneE ?_)) <;> simp [-List.getD_eq_getElem?_getD, -List.drop_one, ↓splitB_true, ↓splitB_false, go_sem, (show k + ((i : Int) + 1) = k + (i : Int) + 1 by omega), (show k + ((i + 1 : Nat) : Int) = k + (i : Int) + 1 by omega)]))
    | (refine AW_block ?_)
    | (refine AW_exit ?_; simp [-List.getD_eq_getElem?_getD, -List.drop_one, ↓splitB_true, ↓splitB_false, go_sem])
    | (refine AW_skip ?_; simp [-List.getD_eq_getElem?_getD, -List.drop_one, ↓splitB_true, ↓splitB_false, go_sem])
    | (refine AW_ret ?_; simp [-List.getD_eq_getElem?_getD, -List.drop_one, ↓splitB_true, ↓splitB_false, go_sem, Try.results41])
    | (intro hx; change AW _ _ _ _ _ _)
    | (refine ⟨?_, ?_⟩ <;> change AW _ _ _ _ _ _)
    | (intro hx; refine ⟨fun hs => ?_, fun hs => ?_⟩)
    | (refine ⟨fun hs => ?_, fun hs => ?_⟩)
    | (refine ⟨?_, fun hs => ?_⟩; change AW _ _ _ _ _ _)
    | (refine ⟨fun hs => ?_, ?_⟩; rotate_left; change AW _ _ _ _ _ _; rotate_left)))
  all_goals (first
    | (obtain rfl : i = xs.length := (by omega); rw [mk_all]; exact ⟨rfl, fun _ _ h => h⟩)
    | skip)
theorem markNil_spec (k : Int) (H : Hp) : Spec Try.prog 41 [.nil, .int .i64 k] H (.int .i64 k) H := by
  refine Spec.of_walk Try.func41 rfl (by simp [Try.f41]) fun B => ?_
  (repeat' (first
    | refine AW_seq ?_
    | refine AW_region (id := 0) Γg6_ok [] (by kernel_rfl) ?_; simp  [-List.getD_eq_getElem?_getD, -List.drop_one, ↓splitB_true, ↓splitB_false, go_sem]
    | refine AW_region (id := 1) Γg6_ok [] (by kernel_rfl) ?_; simp  [-List.getD_eq_getElem?_getD, -List.drop_one, ↓splitB_true, ↓splitB_false, go_sem]
    | refine AW_region (id := 2) Γg6_ok [] (by kernel_rfl) ?_; simp  [-List.getD_eq_getElem?_getD, -List.drop_one, ↓splitB_true, ↓splitB_false, go_sem]
    | refine AW_region (id := 4) Γg6_ok [] (by kernel_rfl) ?_; simp  [-List.getD_eq_getElem?_getD, -List.drop_one, ↓splitB_true, ↓splitB_false, go_sem]
    | refine AW_region (id := 5) Γg6_ok [] (by kernel_rfl) ?_; simp  [-List.getD_eq_getElem?_getD, -List.drop_one, ↓splitB_true, ↓splitB_false, go_sem]
    | refine AW_region (id := 3) Γg6_ok [] (by kernel_rfl) ?_; simp  [-List.getD_eq_getElem?_getD, -List.drop_one, ↓splitB_true, ↓splitB_false, go_sem]
    | refine AW_region (id := 6) Γg6_ok [] (by kernel_rfl) ?_; simp  [-List.getD_eq_getElem?_getD, -List.drop_one, ↓splitB_true, ↓splitB_false, go_sem]
    | refine AW_condA (c := .tmp 9) ?_; simp [-List.getD_eq_getElem?_getD, -List.drop_one, ↓splitB_true, ↓splitB_false, go_sem]; try first | (refine ⟨?_, ?_⟩ <;> change AW _ _ _ _ _ _) | (refine ⟨fun c9 => ?_, fun c9 => ?_⟩ <;> (try simp [B_iff, B_not] at c9))
    | (refine AW_block (id := 0) (AW_loop (ι := Unit) (fun i : Unit => ⟨(upd (upd (upd (fun _ => .any) 0 (.nil)) 1 (.int .i64 k)) 5 (.int .i64 0)), H⟩) (fun i => True) (fun i => 0) (()) ?_ ?_ ?_); exact trivial; ((repeat' (first | exact sub_noneH (by assumption) | exact sub_none | refine sub_upd ?_ ?_ | refine sub_noneE ?_)) <;> simp [-List.getD_eq_getElem?_getD, -List.drop_one, ↓splitB_true, ↓splitB_false, go_sem]); rintro i hi)
    | (refine ⟨(), trivial, by first | omega | (simp; done) | (simp; omega), ?_⟩; ((repeat' (first | exact sub_noneH (by assumption) | exact sub_none | refine sub_upd ?_ ?_ | refine sub_noneE ?_)) <;> simp [-List.getD_eq_getElem?_getD, -List.drop_one, ↓splitB_true, ↓splitB_false, go_sem]))
    | (refine AW_block ?_)
    | (refine AW_exit ?_; simp [-List.getD_eq_getElem?_getD, -List.drop_one, ↓splitB_true, ↓splitB_false, go_sem])
    | (refine AW_skip ?_; simp [-List.getD_eq_getElem?_getD, -List.drop_one, ↓splitB_true, ↓splitB_false, go_sem])
    | (refine AW_ret ?_; simp [-List.getD_eq_getElem?_getD, -List.drop_one, ↓splitB_true, ↓splitB_false, go_sem, Try.results41])
    | (intro hx; change AW _ _ _ _ _ _)
    | (refine ⟨?_, ?_⟩ <;> change AW _ _ _ _ _ _)
    | (intro hx; refine ⟨fun hs => ?_, fun hs => ?_⟩)
    | (refine ⟨fun hs => ?_, fun hs => ?_⟩)
    | (refine ⟨?_, fun hs => ?_⟩; change AW _ _ _ _ _ _)
    | (refine ⟨fun hs => ?_, ?_⟩; rotate_left; change AW _ _ _ _ _ _; rotate_left)
    | (exfalso; omega)))
noncomputable def markIC : Con := .gen fun args H => match args with
  | [.sl b 1 0 n _, .int .i64 k] => match H b with
    | some all => (n ≤ all.length ∧ Is cI n (all.take n) ∧ 0 ≤ k ∧ k + n ≤ 1099511627776, .int .i64 (k + n), upd H b (some (cat cI (marks k n) ++ all.drop n)))
    | none => (False, .any, H)
  | [.nil, .int .i64 k] => (True, .int .i64 k, H)
  | _ => (False, .any, H)
attribute [go_sem] markIC
theorem markIC_ok : ConOk Try.prog 41 markIC := by
  refine ⟨callable Try.func41 (by decide) rfl, fun args H h => ?_⟩
  revert h
  dsimp only
  split
  · rename_i b n cp k
    split
    · rename_i all hH
      rintro ⟨g1, ⟨xs, hn, he⟩, g2, g3⟩
      subst hn
      have : all = cat cI xs ++ all.drop xs.length := by rw [← he, List.take_append_drop]
      rw [this] at hH
      have := markI_spec xs k b cp _ H hH g2 g3
      exact this
    · intro h; exact h.elim
  · intro _
    exact markNil_spec _ H
  · intro h
    exact h.elim
noncomputable def Γg7 : FuncId → Con := ext Γg6 41 markIC
attribute [go_sem] Γg7
theorem Γg7_ok : ∀ g, ConOk Try.prog g (Γg7 g) := ext_ok Γg6_ok markIC_ok

/-- What a look for marks tells. -/
def heldI (k : Int) (xs : List Int) : Int := if xs = marks k xs.length then k + xs.length else -1
@[go_sem] theorem heldI_marks (k : Int) (n : Nat) : heldI k (marks k n) = k + n := by simp [heldI, marks_len]
@[go_sem] theorem heldI_nil (k : Int) : heldI k [] = k := by simp [heldI, marks]
theorem heldI_pure (xs : List Int) (k : Int) (h0 : 0 ≤ k) (h1 : k + xs.length ≤ 1099511627776) : Pure Try.prog 42 [li cI xs, .int .i64 k] (.int .i64 (heldI k xs)) := by
  refine Pure.of_walk Try.func42 rfl (by simp [Try.f42]) (by simp [-List.drop_one, go_sem]) fun B hK => ?_
  (repeat' (first
    | refine AW_seq ?_
    | refine AW_region (id := 0) Γg7_ok [] (by kernel_rfl) ?_; simp  [-List.getD_eq_getElem?_getD, -List.drop_one, ↓splitB_true, ↓splitB_false, go_sem]
    | refine AW_region (id := 1) Γg7_ok [] (by kernel_rfl) ?_; simp  [-List.getD_eq_getElem?_getD, -List.drop_one, ↓splitB_true, ↓splitB_false, go_sem]
    | refine AW_region (id := 2) Γg7_ok [] (by kernel_rfl) ?_; simp  [-List.getD_eq_getElem?_getD, -List.drop_one, ↓splitB_true, ↓splitB_false, go_sem]
    | refine AW_region (id := 4) Γg7_ok [] (by kernel_rfl) ?_; simp  [-List.getD_eq_getElem?_getD, -List.drop_one, ↓splitB_true, ↓splitB_false, go_sem, c9, ne_nil c9, Nat.sub_pos_of_lt c9]
    | refine AW_region (id := 5) Γg7_ok [] (by kernel_rfl) ?_; simp  [-List.getD_eq_getElem?_getD, -List.drop_one, ↓splitB_true, ↓splitB_false, go_sem]
    | refine AW_region (id := 6) Γg7_ok [] (by kernel_rfl) ?_; simp  [-List.getD_eq_getElem?_getD, -List.drop_one, ↓splitB_true, ↓splitB_false, go_sem, wrap_in (x := k + (i : Int) + 1) (by omega) (by omega)]
    | refine AW_region (id := 3) Γg7_ok [] (by kernel_rfl) ?_; simp  [-List.getD_eq_getElem?_getD, -List.drop_one, ↓splitB_true, ↓splitB_false, go_sem, wrapS (k := i) (by omega)]
    | refine AW_region (id := 7) Γg7_ok [] (by kernel_rfl) ?_; simp  [-List.getD_eq_getElem?_getD, -List.drop_one, ↓splitB_true, ↓splitB_false, go_sem]
    | refine AW_condA (c := .tmp 9) ?_; simp [-List.getD_eq_getElem?_getD, -List.drop_one, ↓splitB_true, ↓splitB_false, go_sem]; try first | (refine ⟨?_, ?_⟩ <;> change AW _ _ _ _ _ _) | (refine ⟨fun c9 => ?_, fun c9 => ?_⟩ <;> (try simp [B_iff, B_not] at c9))
    | refine AW_condA (c := .tmp 17) ?_; simp [-List.getD_eq_getElem?_getD, -List.drop_one, ↓splitB_true, ↓splitB_false, go_sem]; try first | (refine ⟨?_, ?_⟩ <;> change AW _ _ _ _ _ _) | (refine ⟨fun c17 => ?_, fun c17 => ?_⟩ <;> (try simp [B_iff, B_not] at c17))
    | (refine AW_block (id := 0) (AW_loop (ι := Nat) (fun i : Nat => ⟨(upd (upd (upd (fun _ => .any) 0 (li cI xs)) 1 (.int .i64 (k + i))) 5 (.int .i64 i)), fun _ => none⟩) (fun i => i ≤ xs.length ∧ NoneTill (fun j => !decide (nth xs j = k + j)) i) (fun i => xs.length - i) (0) ?_ ?_ ?_); exact ⟨Nat.zero_le _, .zero _⟩; ((repeat' (first | exact sub_noneH (by assumption) | exact sub_none | refine sub_upd ?_ ?_ | refine sub_noneE ?_)) <;> simp [-List.getD_eq_getElem?_getD, -List.drop_one, ↓splitB_true, ↓splitB_false, go_sem]); rintro i ⟨hi, ht⟩)
    | (refine ⟨i + 1, ⟨by omega, ht.succ (by simp [c17])⟩, by first | omega | (simp; done) | (simp; omega), ?_⟩; ((repeat' (first | exact sub_noneH (by assumption) | exact sub_none | refine sub_upd ?_ ?_ | refine sub_noneE ?_)) <;> simp [-List.getD_eq_getElem?_getD, -List.drop_one, ↓splitB_true, ↓splitB_false, go_sem, (show k + ((i : Int) + 1) = k + (i : Int) + 1 by omega), (show k + ((i + 1 : Nat) : Int) = k + (i : Int) + 1 by omega)]))
    | (refine AW_block ?_)
    | (refine AW_exit ?_; simp [-List.getD_eq_getElem?_getD, -List.drop_one, ↓splitB_true, ↓splitB_false, go_sem])
    | (refine AW_skip ?_; simp [-List.getD_eq_getElem?_getD, -List.drop_one, ↓splitB_true, ↓splitB_false, go_sem])
    | (refine AW_ret ?_; simp [-List.getD_eq_getElem?_getD, -List.drop_one, ↓splitB_true, ↓splitB_false, go_sem, Try.results42])
    | (intro hx; change AW _ _ _ _ _ _)
    | (refine ⟨?_, ?_⟩ <;> change AW _ _ _ _ _ _)
    | (intro hx; refine ⟨fun hs => ?_, fun hs => ?_⟩)
    | (refine ⟨fun hs => ?_, fun hs => ?_⟩)
    | (refine ⟨?_, fun hs => ?_⟩; change AW _ _ _ _ _ _)
    | (refine ⟨fun hs => ?_, ?_⟩; rotate_left; change AW _ _ _ _ _ _; rotate_left)))
  all_goals (first
    | (rw [heldI, if_neg]; intro e; apply c17; have := nth_marks (k := k) c9; rw [← e] at this; exact this)
    | (obtain rfl : i = xs.length := (by omega); rw [heldI, if_pos]; apply List.ext_getElem (by rw [marks_len]); intro j h1 h2; have := ht j h1; simp at this; rw [← nth_lt h1, ← nth_lt h2, nth_marks h1, this])
    | skip)
noncomputable def heldI_pureC : Con := .pure fun
  | [.list n_xs c_xs, .int .i64 k] => ((Is cI n_xs c_xs) ∧ (0 ≤ k) ∧ (k + (de cI c_xs).length ≤ 1099511627776), .int .i64 (heldI k (de cI c_xs)))
  | _ => (False, .any)
attribute [go_sem] heldI_pureC
theorem heldI_pureC_ok : ConOk Try.prog 42 heldI_pureC := by
  refine ⟨callable Try.func42 (by decide) rfl, fun args h => ?_⟩
  revert h
  dsimp only
  split
  · intro h
    obtain ⟨⟨xs, rfl, rfl⟩, h0, h1⟩ := h
    try simp only [de_cat] at *
    exact ⟨heldI_pure xs _ h0 h1, by simp [go_sem]⟩
  · intro h
    exact h.elim
noncomputable def Γg8 : FuncId → Con := ext Γg7 42 heldI_pureC
attribute [go_sem] Γg8
theorem Γg8_ok : ∀ g, ConOk Try.prog g (Γg8 g) := ext_ok Γg7_ok heldI_pureC_ok
end Go.Proofs.Ytljncoikoffijaa.Vm

