import Derived.Test.YtoklpofekcclhaaJ10
import Derived.Test.YtoklpofekcclhaaTr
/-
  Automata: rows of Bools, of transitions; sz, to, eq. No conditions.
-/
namespace Go.Proofs.Ytoklpofekcclhaa.Vm
open Go
set_option linter.unusedVariables false
set_option linter.unusedSimpArgs false
set_option maxRecDepth 200000

theorem szBoolS_pure (xs : List Bool) (left : Int) (h0 : -1 ≤ left) (h1 : left ≤ 1048576) : Pure Try.prog 69 [li cB xs, .int .i64 left] (.int .i64 (szOf left xs.length)) := by
  refine Pure.of_walk Try.func69 rfl (by simp [Try.f69]) (by simp [-List.drop_one, go_sem]) fun B hK => ?_
  (repeat' (first
    | refine AW_seq ?_
    | (refine AW_len 0 rfl fun hm => ?_); refine AW_region (id := 0) Γj4_ok [] (by kernel_rfl) ?_; simp  [-List.getD_eq_getElem?_getD, -List.drop_one, ↓splitB_true, ↓splitB_false, go_sem]
    | refine AW_region (id := 1) Γj4_ok [] (by kernel_rfl) ?_; simp  [-List.getD_eq_getElem?_getD, -List.drop_one, ↓splitB_true, ↓splitB_false, go_sem, wrap_sub h0 h1 hm]
    | refine AW_region (id := 2) Γj4_ok [] (by kernel_rfl) ?_; simp  [-List.getD_eq_getElem?_getD, -List.drop_one, ↓splitB_true, ↓splitB_false, go_sem]
    | refine AW_region (id := 3) Γj4_ok [] (by kernel_rfl) ?_; simp  [-List.getD_eq_getElem?_getD, -List.drop_one, ↓splitB_true, ↓splitB_false, go_sem]
    | refine AW_region (id := 4) Γj4_ok [] (by kernel_rfl) ?_; simp  [-List.getD_eq_getElem?_getD, -List.drop_one, ↓splitB_true, ↓splitB_false, go_sem]
    | refine AW_condA (c := .tmp 10) ?_; simp [-List.getD_eq_getElem?_getD, -List.drop_one, ↓splitB_true, ↓splitB_false, go_sem]; try first | (refine ⟨?_, ?_⟩ <;> change AW _ _ _ _ _ _) | (refine ⟨fun c10 => ?_, fun c10 => ?_⟩ <;> (try simp [B_iff, B_not] at c10))
    | (refine AW_block ?_)
    | (refine AW_exit ?_; simp [-List.getD_eq_getElem?_getD, -List.drop_one, ↓splitB_true, ↓splitB_false, go_sem])
    | (refine AW_skip ?_; simp [-List.getD_eq_getElem?_getD, -List.drop_one, ↓splitB_true, ↓splitB_false, go_sem])
    | (refine AW_ret ?_; simp [-List.getD_eq_getElem?_getD, -List.drop_one, ↓splitB_true, ↓splitB_false, go_sem, Try.results69])
    | (intro hx; change AW _ _ _ _ _ _)
    | (refine ⟨?_, ?_⟩ <;> change AW _ _ _ _ _ _)
    | (intro hx; refine ⟨fun hs => ?_, fun hs => ?_⟩)
    | (refine ⟨fun hs => ?_, fun hs => ?_⟩)
    | (refine ⟨?_, fun hs => ?_⟩; change AW _ _ _ _ _ _)
    | (refine ⟨fun hs => ?_, ?_⟩; rotate_left; change AW _ _ _ _ _ _; rotate_left)))
  all_goals (first
    | rw [szOf_no (by omega)]
    | rw [szOf_yes (by omega)]
    | skip)
noncomputable def szBoolS_pureC : Con := .pure fun
  | [.list n_xs c_xs, .int .i64 left] => ((Is cB n_xs c_xs) ∧ (-1 ≤ left) ∧ (left ≤ 1048576), .int .i64 (szOf left (de cB c_xs).length))
  | _ => (False, .any)
attribute [go_sem] szBoolS_pureC
theorem szBoolS_pureC_ok : ConOk Try.prog 69 szBoolS_pureC := by
  refine ⟨callable Try.func69 (by decide) rfl, fun args h => ?_⟩
  revert h
  dsimp only
  split
  · intro h
    obtain ⟨⟨xs, rfl, rfl⟩, h0, h1⟩ := h
    try simp only [de_cat] at *
    exact ⟨szBoolS_pure xs _ h0 h1, by simp [go_sem]⟩
  · intro h
    exact h.elim
noncomputable def Γa1 : FuncId → Con := ext Γj4 69 szBoolS_pureC
attribute [go_sem] Γa1
theorem Γa1_ok : ∀ g, ConOk Try.prog g (Γa1 g) := ext_ok Γj4_ok szBoolS_pureC_ok

theorem szTransitionS_pure (xs : List Tr4) (left : Int) (h0 : -1 ≤ left) (h1 : left ≤ 1048576) : Pure Try.prog 70 [li cT xs, .int .i64 left] (.int .i64 (szOf left xs.length)) := by
  refine Pure.of_walk Try.func70 rfl (by simp [Try.f70]) (by simp [-List.drop_one, go_sem]) fun B hK => ?_
  (repeat' (first
    | refine AW_seq ?_
    | (refine AW_len 0 rfl fun hm => ?_); refine AW_region (id := 0) Γa1_ok [] (by kernel_rfl) ?_; simp  [-List.getD_eq_getElem?_getD, -List.drop_one, ↓splitB_true, ↓splitB_false, go_sem]
    | refine AW_region (id := 1) Γa1_ok [] (by kernel_rfl) ?_; simp  [-List.getD_eq_getElem?_getD, -List.drop_one, ↓splitB_true, ↓splitB_false, go_sem, wrap_sub h0 h1 hm]
    | refine AW_region (id := 2) Γa1_ok [] (by kernel_rfl) ?_; simp  [-List.getD_eq_getElem?_getD, -List.drop_one, ↓splitB_true, ↓splitB_false, go_sem]
    | refine AW_region (id := 3) Γa1_ok [] (by kernel_rfl) ?_; simp  [-List.getD_eq_getElem?_getD, -List.drop_one, ↓splitB_true, ↓splitB_false, go_sem]
    | refine AW_region (id := 4) Γa1_ok [] (by kernel_rfl) ?_; simp  [-List.getD_eq_getElem?_getD, -List.drop_one, ↓splitB_true, ↓splitB_false, go_sem]
    | refine AW_condA (c := .tmp 10) ?_; simp [-List.getD_eq_getElem?_getD, -List.drop_one, ↓splitB_true, ↓splitB_false, go_sem]; try first | (refine ⟨?_, ?_⟩ <;> change AW _ _ _ _ _ _) | (refine ⟨fun c10 => ?_, fun c10 => ?_⟩ <;> (try simp [B_iff, B_not] at c10))
    | (refine AW_block ?_)
    | (refine AW_exit ?_; simp [-List.getD_eq_getElem?_getD, -List.drop_one, ↓splitB_true, ↓splitB_false, go_sem])
    | (refine AW_skip ?_; simp [-List.getD_eq_getElem?_getD, -List.drop_one, ↓splitB_true, ↓splitB_false, go_sem])
    | (refine AW_ret ?_; simp [-List.getD_eq_getElem?_getD, -List.drop_one, ↓splitB_true, ↓splitB_false, go_sem, Try.results70])
    | (intro hx; change AW _ _ _ _ _ _)
    | (refine ⟨?_, ?_⟩ <;> change AW _ _ _ _ _ _)
    | (intro hx; refine ⟨fun hs => ?_, fun hs => ?_⟩)
    | (refine ⟨fun hs => ?_, fun hs => ?_⟩)
    | (refine ⟨?_, fun hs => ?_⟩; change AW _ _ _ _ _ _)
    | (refine ⟨fun hs => ?_, ?_⟩; rotate_left; change AW _ _ _ _ _ _; rotate_left)))
  all_goals (first
    | rw [szOf_no (by omega)]
    | rw [szOf_yes (by omega)]
    | skip)
noncomputable def szTransitionS_pureC : Con := .pure fun
  | [.list n_xs c_xs, .int .i64 left] => ((Is cT n_xs c_xs) ∧ (-1 ≤ left) ∧ (left ≤ 1048576), .int .i64 (szOf left (de cT c_xs).length))
  | _ => (False, .any)
attribute [go_sem] szTransitionS_pureC
theorem szTransitionS_pureC_ok : ConOk Try.prog 70 szTransitionS_pureC := by
  refine ⟨callable Try.func70 (by decide) rfl, fun args h => ?_⟩
  revert h
  dsimp only
  split
  · intro h
    obtain ⟨⟨xs, rfl, rfl⟩, h0, h1⟩ := h
    try simp only [de_cat] at *
    exact ⟨szTransitionS_pure xs _ h0 h1, by simp [go_sem]⟩
  · intro h
    exact h.elim
noncomputable def Γa2 : FuncId → Con := ext Γa1 70 szTransitionS_pureC
attribute [go_sem] Γa2
theorem Γa2_ok : ∀ g, ConOk Try.prog g (Γa2 g) := ext_ok Γa1_ok szTransitionS_pureC_ok

theorem toBoolS_pure (xs : List Bool) (h0 : xs.length ≤ 1048576) : Pure Try.prog 72 [li cB xs] (fr 1 cB xs) := by
  refine Pure.of_walk Try.func72 rfl (by simp [Try.f72]) (by simp [-List.drop_one, go_sem]) fun B hK => ?_
  (repeat' (first
    | refine AW_seq ?_
    | refine AW_region (id := 0) Γa2_ok [] (by kernel_rfl) ?_; simp  [-List.getD_eq_getElem?_getD, -List.drop_one, ↓splitB_true, ↓splitB_false, go_sem]
    | refine AW_region (id := 1) Γa2_ok [] (by kernel_rfl) ?_; simp  [-List.getD_eq_getElem?_getD, -List.drop_one, ↓splitB_true, ↓splitB_false, go_sem, (by omega : (xs.length : Int) ≤ 281474976710656), (by omega : (xs.length : Int) ≤ 9223372036854775807)]; try ((refine AW_mat 3 rfl fun b cp j _ hcp hj => ?_))
    | refine AW_region (id := 2) Γa2_ok [] (by kernel_rfl) ?_; simp  [-List.getD_eq_getElem?_getD, -List.drop_one, ↓splitB_true, ↓splitB_false, go_sem]
    | refine AW_region (id := 3) Γa2_ok [] (by kernel_rfl) ?_; simp  [-List.getD_eq_getElem?_getD, -List.drop_one, ↓splitB_true, ↓splitB_false, go_sem]
    | refine AW_region (id := 5) Γa2_ok [] (by kernel_rfl) ?_; simp  [-List.getD_eq_getElem?_getD, -List.drop_one, ↓splitB_true, ↓splitB_false, go_sem, c11, ne_nil c11, Nat.sub_pos_of_lt c11]
    | refine AW_region (id := 4) Γa2_ok [] (by kernel_rfl) ?_; simp  [-List.getD_eq_getElem?_getD, -List.drop_one, ↓splitB_true, ↓splitB_false, go_sem, wrapS (k := k) (by omega)]
    | ((obtain rfl : k = xs.length := by omega); refine AW_unmat 3 (b := b) (all := cat cB xs ++ List.replicate j .any) rfl (by simp [go_sem, fill_all]) (by omega) (by simp [cat_length]) (by simp [cat_length]; omega) ?_); refine AW_region (id := 6) Γa2_ok [] (by kernel_rfl) ?_; simp  [-List.getD_eq_getElem?_getD, -List.drop_one, ↓splitB_true, ↓splitB_false, go_sem]
    | refine AW_condA (c := .tmp 11) ?_; simp [-List.getD_eq_getElem?_getD, -List.drop_one, ↓splitB_true, ↓splitB_false, go_sem]; try first | (refine ⟨?_, ?_⟩ <;> change AW _ _ _ _ _ _) | (refine ⟨fun c11 => ?_, fun c11 => ?_⟩ <;> (try simp [B_iff, B_not] at c11))
    | (refine AW_block (id := 0) (AW_loop (ι := Nat) (fun k : Nat => ⟨(upd (upd (upd (fun _ => .any) 0 (li cB xs)) 3 (.sl b 1 0 xs.length cp)) 4 (.int .i64 k)), upd (fun _ => none) b (some (fillC cB [.bool false] 1 xs k (List.replicate j .any)))⟩) (fun k => k ≤ xs.length) (fun k => xs.length - k) (0) ?_ ?_ ?_); exact Nat.zero_le _; ((repeat' (first | exact sub_noneH (by assumption) | exact sub_none | refine sub_upd ?_ ?_ | refine sub_noneE ?_)) <;> simp [-List.getD_eq_getElem?_getD, -List.drop_one, ↓splitB_true, ↓splitB_false, go_sem, fill_zero]); rintro k hk)
    | (refine ⟨k + 1, by omega, by first | omega | (simp; done) | (simp; omega), ?_⟩; ((repeat' (first | exact sub_noneH (by assumption) | exact sub_none | refine sub_upd ?_ ?_ | refine sub_noneE ?_)) <;> simp [-List.getD_eq_getElem?_getD, -List.drop_one, ↓splitB_true, ↓splitB_false, go_sem, fill_zero]))
    | (refine AW_block ?_)
    | (refine AW_exit ?_; simp [-List.getD_eq_getElem?_getD, -List.drop_one, ↓splitB_true, ↓splitB_false, go_sem])
    | (refine AW_skip ?_; simp [-List.getD_eq_getElem?_getD, -List.drop_one, ↓splitB_true, ↓splitB_false, go_sem])
    | (refine AW_ret ?_; simp [-List.getD_eq_getElem?_getD, -List.drop_one, ↓splitB_true, ↓splitB_false, go_sem, Try.results72])
    | (intro hx; change AW _ _ _ _ _ _)
    | (refine ⟨?_, ?_⟩ <;> change AW _ _ _ _ _ _)
    | (intro hx; refine ⟨fun hs => ?_, fun hs => ?_⟩)
    | (refine ⟨fun hs => ?_, fun hs => ?_⟩)
    | (refine ⟨?_, fun hs => ?_⟩; change AW _ _ _ _ _ _)
    | (refine ⟨fun hs => ?_, ?_⟩; rotate_left; change AW _ _ _ _ _ _; rotate_left)))
noncomputable def toBoolS_pureC : Con := .pure fun
  | [.list n_xs c_xs] => ((Is cB n_xs c_xs) ∧ ((de cB c_xs).length ≤ 1048576), fr 1 cB (de cB c_xs))
  | _ => (False, .any)
attribute [go_sem] toBoolS_pureC
theorem toBoolS_pureC_ok : ConOk Try.prog 72 toBoolS_pureC := by
  refine ⟨callable Try.func72 (by decide) rfl, fun args h => ?_⟩
  revert h
  dsimp only
  split
  · intro h
    obtain ⟨⟨xs, rfl, rfl⟩, h0⟩ := h
    try simp only [de_cat] at *
    exact ⟨toBoolS_pure xs h0, by simp [go_sem]⟩
  · intro h
    exact h.elim
noncomputable def Γa3 : FuncId → Con := ext Γa2 72 toBoolS_pureC
attribute [go_sem] Γa3
theorem Γa3_ok : ∀ g, ConOk Try.prog g (Γa3 g) := ext_ok Γa2_ok toBoolS_pureC_ok

theorem toTransition_pure (p : Int) (q : Int) (r : Int) (s : Int)  : Pure Try.prog 138 [.st [.int .i64 p, .int .i64 q, .int .i64 r, .int .i64 s]] (.st [.int .i64 p, .int .i64 q, .int .i64 r, .int .i64 s]) := by
  refine Pure.of_walk Try.func138 rfl (by simp [Try.f138]) (by simp [-List.drop_one, go_sem]) fun B hK => ?_
  (repeat' (first
    | refine AW_seq ?_
    | refine AW_region (id := 0) Γa3_ok [] (by kernel_rfl) ?_; simp  [-List.getD_eq_getElem?_getD, -List.drop_one, ↓splitB_true, ↓splitB_false, go_sem]; try (refine AW_data hK 1 ?_; simp [go_sem])
    | refine AW_region (id := 1) Γa3_ok [] (by kernel_rfl) ?_; simp  [-List.getD_eq_getElem?_getD, -List.drop_one, ↓splitB_true, ↓splitB_false, go_sem]; try (refine AW_matBox 3 rfl fun b3 hb3 => ?_)
    | refine AW_region (id := 2) Γa3_ok [] (by kernel_rfl) ?_; simp  [-List.getD_eq_getElem?_getD, -List.drop_one, ↓splitB_true, ↓splitB_false, go_sem]
    | refine AW_region (id := 3) Γa3_ok [] (by kernel_rfl) ?_; simp  [-List.getD_eq_getElem?_getD, -List.drop_one, ↓splitB_true, ↓splitB_false, go_sem]
    | refine AW_region (id := 4) Γa3_ok [] (by kernel_rfl) ?_; simp  [-List.getD_eq_getElem?_getD, -List.drop_one, ↓splitB_true, ↓splitB_false, go_sem]
    | refine AW_region (id := 5) Γa3_ok [] (by kernel_rfl) ?_; simp  [-List.getD_eq_getElem?_getD, -List.drop_one, ↓splitB_true, ↓splitB_false, go_sem]
    | refine AW_region (id := 6) Γa3_ok [] (by kernel_rfl) ?_; simp  [-List.getD_eq_getElem?_getD, -List.drop_one, ↓splitB_true, ↓splitB_false, go_sem]
    | (refine AW_block ?_)
    | (refine AW_exit ?_; simp [-List.getD_eq_getElem?_getD, -List.drop_one, ↓splitB_true, ↓splitB_false, go_sem])
    | (refine AW_skip ?_; simp [-List.getD_eq_getElem?_getD, -List.drop_one, ↓splitB_true, ↓splitB_false, go_sem])
    | (refine AW_ret ?_; simp [-List.getD_eq_getElem?_getD, -List.drop_one, ↓splitB_true, ↓splitB_false, go_sem, Try.results138])
    | (intro hx; change AW _ _ _ _ _ _)
    | (refine ⟨?_, ?_⟩ <;> change AW _ _ _ _ _ _)
    | (intro hx; refine ⟨fun hs => ?_, fun hs => ?_⟩)
    | (refine ⟨fun hs => ?_, fun hs => ?_⟩)
    | (refine ⟨?_, fun hs => ?_⟩; change AW _ _ _ _ _ _)
    | (refine ⟨fun hs => ?_, ?_⟩; rotate_left; change AW _ _ _ _ _ _; rotate_left)))
noncomputable def toTransition_pureC : Con := .pure fun
  | [.st [.int .i64 p, .int .i64 q, .int .i64 r, .int .i64 s]] => (True, .st [.int .i64 p, .int .i64 q, .int .i64 r, .int .i64 s])
  | _ => (False, .any)
attribute [go_sem] toTransition_pureC
theorem toTransition_pureC_ok : ConOk Try.prog 138 toTransition_pureC := by
  refine ⟨callable Try.func138 (by decide) rfl, fun args h => ?_⟩
  revert h
  dsimp only
  split
  · intro h
    skip
    skip
    exact ⟨toTransition_pure _ _ _ _, by simp [go_sem]⟩
  · intro h
    exact h.elim
noncomputable def Γa4 : FuncId → Con := ext Γa3 138 toTransition_pureC
attribute [go_sem] Γa4
theorem Γa4_ok : ∀ g, ConOk Try.prog g (Γa4 g) := ext_ok Γa3_ok toTransition_pureC_ok

theorem toTransitionS_pure (xs : List Tr4) (h0 : xs.length ≤ 1048576) : Pure Try.prog 73 [li cT xs] (fr 4 cT xs) := by
  refine Pure.of_walk Try.func73 rfl (by simp [Try.f73]) (by simp [-List.drop_one, go_sem]) fun B hK => ?_
  (repeat' (first
    | refine AW_seq ?_
    | refine AW_region (id := 0) Γa4_ok [] (by kernel_rfl) ?_; simp  [-List.getD_eq_getElem?_getD, -List.drop_one, ↓splitB_true, ↓splitB_false, go_sem]
    | refine AW_region (id := 1) Γa4_ok [] (by kernel_rfl) ?_; simp  [-List.getD_eq_getElem?_getD, -List.drop_one, ↓splitB_true, ↓splitB_false, go_sem, (by omega : 32 * (xs.length : Int) ≤ 281474976710656), (by omega : (xs.length : Int) ≤ 9223372036854775807)]; try ((refine AW_mat 3 rfl fun b cp j _ hcp hj => ?_))
    | refine AW_region (id := 2) Γa4_ok [] (by kernel_rfl) ?_; simp  [-List.getD_eq_getElem?_getD, -List.drop_one, ↓splitB_true, ↓splitB_false, go_sem]
    | refine AW_region (id := 3) Γa4_ok [] (by kernel_rfl) ?_; simp  [-List.getD_eq_getElem?_getD, -List.drop_one, ↓splitB_true, ↓splitB_false, go_sem]
    | refine AW_region (id := 5) Γa4_ok [] (by kernel_rfl) ?_; simp  [-List.getD_eq_getElem?_getD, -List.drop_one, ↓splitB_true, ↓splitB_false, go_sem, c11, ne_nil c11, Nat.sub_pos_of_lt c11]
    | refine AW_region (id := 4) Γa4_ok [] (by kernel_rfl) ?_; simp  [-List.getD_eq_getElem?_getD, -List.drop_one, ↓splitB_true, ↓splitB_false, go_sem, wrapS (k := k) (by omega)]
    | ((obtain rfl : k = xs.length := by omega); refine AW_unmat 3 (b := b) (all := cat cT xs ++ List.replicate j .any) rfl (by simp [go_sem, fill_all]) (by omega) (by simp [cat_length]) (by simp [cat_length]; omega) ?_); refine AW_region (id := 6) Γa4_ok [] (by kernel_rfl) ?_; simp  [-List.getD_eq_getElem?_getD, -List.drop_one, ↓splitB_true, ↓splitB_false, go_sem]
    | refine AW_condA (c := .tmp 11) ?_; simp [-List.getD_eq_getElem?_getD, -List.drop_one, ↓splitB_true, ↓splitB_false, go_sem]; try first | (refine ⟨?_, ?_⟩ <;> change AW _ _ _ _ _ _) | (refine ⟨fun c11 => ?_, fun c11 => ?_⟩ <;> (try simp [B_iff, B_not] at c11))
    | (refine AW_block (id := 0) (AW_loop (ι := Nat) (fun k : Nat => ⟨(upd (upd (upd (fun _ => .any) 0 (li cT xs)) 3 (.sl b 4 0 xs.length cp)) 4 (.int .i64 k)), upd (fun _ => none) b (some (fillC cT [.int .i64 0, .int .i64 0, .int .i64 0, .int .i64 0] 4 xs k (List.replicate j .any)))⟩) (fun k => k ≤ xs.length) (fun k => xs.length - k) (0) ?_ ?_ ?_); exact Nat.zero_le _; ((repeat' (first | exact sub_noneH (by assumption) | exact sub_none | refine sub_upd ?_ ?_ | refine sub_noneE ?_)) <;> simp [-List.getD_eq_getElem?_getD, -List.drop_one, ↓splitB_true, ↓splitB_false, go_sem, fill_zero]); rintro k hk)
    | (refine ⟨k + 1, by omega, by first | omega | (simp; done) | (simp; omega), ?_⟩; ((repeat' (first | exact sub_noneH (by assumption) | exact sub_none | refine sub_upd ?_ ?_ | refine sub_noneE ?_)) <;> simp [-List.getD_eq_getElem?_getD, -List.drop_one, ↓splitB_true, ↓splitB_false, go_sem, fill_zero]))
    | (refine AW_block ?_)
    | (refine AW_exit ?_; simp [-List.getD_eq_getElem?_getD, -List.drop_one, ↓splitB_true, ↓splitB_false, go_sem])
    | (refine AW_skip ?_; simp [-List.getD_eq_getElem?_getD, -List.drop_one, ↓splitB_true, ↓splitB_false, go_sem])
    | (refine AW_ret ?_; simp [-List.getD_eq_getElem?_getD, -List.drop_one, ↓splitB_true, ↓splitB_false, go_sem, Try.results73])
    | (intro hx; change AW _ _ _ _ _ _)
    | (refine ⟨?_, ?_⟩ <;> change AW _ _ _ _ _ _)
    | (intro hx; refine ⟨fun hs => ?_, fun hs => ?_⟩)
    | (refine ⟨fun hs => ?_, fun hs => ?_⟩)
    | (refine ⟨?_, fun hs => ?_⟩; change AW _ _ _ _ _ _)
    | (refine ⟨fun hs => ?_, ?_⟩; rotate_left; change AW _ _ _ _ _ _; rotate_left)))
noncomputable def toTransitionS_pureC : Con := .pure fun
  | [.list n_xs c_xs] => ((Is cT n_xs c_xs) ∧ ((de cT c_xs).length ≤ 1048576), fr 4 cT (de cT c_xs))
  | _ => (False, .any)
attribute [go_sem] toTransitionS_pureC
theorem toTransitionS_pureC_ok : ConOk Try.prog 73 toTransitionS_pureC := by
  refine ⟨callable Try.func73 (by decide) rfl, fun args h => ?_⟩
  revert h
  dsimp only
  split
  · intro h
    obtain ⟨⟨xs, rfl, rfl⟩, h0⟩ := h
    try simp only [de_cat] at *
    exact ⟨toTransitionS_pure xs h0, by simp [go_sem]⟩
  · intro h
    exact h.elim
noncomputable def Γa5 : FuncId → Con := ext Γa4 73 toTransitionS_pureC
attribute [go_sem] Γa5
theorem Γa5_ok : ∀ g, ConOk Try.prog g (Γa5 g) := ext_ok Γa4_ok toTransitionS_pureC_ok

theorem eqBoolS_pure (xs : List Bool) (ys : List Bool)  : Pure Try.prog 43 [li cB xs, li cB ys] (.bool (decide (xs = ys))) := by
  refine Pure.of_walk Try.func43 rfl (by simp [Try.f43]) (by simp [-List.drop_one, go_sem]) fun B hK => ?_
  (repeat' (first
    | refine AW_seq ?_
    | (refine AW_len 0 rfl fun hm => ?_); refine AW_region (id := 0) Γa5_ok [] (by kernel_rfl) ?_; simp  [-List.getD_eq_getElem?_getD, -List.drop_one, ↓splitB_true, ↓splitB_false, go_sem]
    | refine AW_region (id := 1) Γa5_ok [] (by kernel_rfl) ?_; simp  [-List.getD_eq_getElem?_getD, -List.drop_one, ↓splitB_true, ↓splitB_false, go_sem]
    | refine AW_region (id := 2) Γa5_ok [] (by kernel_rfl) ?_; simp  [-List.getD_eq_getElem?_getD, -List.drop_one, ↓splitB_true, ↓splitB_false, go_sem]
    | refine AW_region (id := 3) Γa5_ok [] (by kernel_rfl) ?_; simp  [-List.getD_eq_getElem?_getD, -List.drop_one, ↓splitB_true, ↓splitB_false, go_sem]
    | refine AW_region (id := 4) Γa5_ok [] (by kernel_rfl) ?_; simp  [-List.getD_eq_getElem?_getD, -List.drop_one, ↓splitB_true, ↓splitB_false, go_sem]
    | (have cy : k < ys.length := by omega); refine AW_region_draw (id := 6) Γa5_ok mixed [] [5] (by kernel_rfl) (by kernel_rfl) (by simp [-List.getD_eq_getElem?_getD, -List.drop_one, ↓splitB_true, ↓splitB_false, go_sem, c14, ne_nil c14, Nat.sub_pos_of_lt c14, cy, ne_nil cy, Nat.sub_pos_of_lt cy]) ?_; simp  [-List.getD_eq_getElem?_getD, -List.drop_one, ↓splitB_true, ↓splitB_false, go_sem, c14, ne_nil c14, Nat.sub_pos_of_lt c14, cy, ne_nil cy, Nat.sub_pos_of_lt cy]
    | refine AW_region (id := 7) Γa5_ok [] (by kernel_rfl) ?_; simp  [-List.getD_eq_getElem?_getD, -List.drop_one, ↓splitB_true, ↓splitB_false, go_sem]
    | refine AW_region (id := 5) Γa5_ok [] (by kernel_rfl) ?_; simp  [-List.getD_eq_getElem?_getD, -List.drop_one, ↓splitB_true, ↓splitB_false, go_sem, wrapS (k := k) (by omega)]
    | refine AW_region (id := 8) Γa5_ok [] (by kernel_rfl) ?_; simp  [-List.getD_eq_getElem?_getD, -List.drop_one, ↓splitB_true, ↓splitB_false, go_sem]
    | refine AW_condA (c := .tmp 10) ?_; simp [-List.getD_eq_getElem?_getD, -List.drop_one, ↓splitB_true, ↓splitB_false, go_sem]; try first | (refine ⟨?_, ?_⟩ <;> change AW _ _ _ _ _ _) | (refine ⟨fun c10 => ?_, fun c10 => ?_⟩ <;> (try simp [B_iff, B_not] at c10))
    | refine AW_condA (c := .tmp 14) ?_; simp [-List.getD_eq_getElem?_getD, -List.drop_one, ↓splitB_true, ↓splitB_false, go_sem]; try first | (refine ⟨?_, ?_⟩ <;> change AW _ _ _ _ _ _) | (refine ⟨fun c14 => ?_, fun c14 => ?_⟩ <;> (try simp [B_iff, B_not] at c14))
    | refine AW_condA (c := .tmp 25) ?_; simp [-List.getD_eq_getElem?_getD, -List.drop_one, ↓splitB_true, ↓splitB_false, go_sem]; try first | (refine ⟨?_, ?_⟩ <;> change AW _ _ _ _ _ _) | (refine ⟨fun c25 => ?_, fun c25 => ?_⟩ <;> (try simp [B_iff, B_not] at c25))
    | (refine AW_block (id := 0) (AW_loop (ι := Nat) (fun k : Nat => ⟨(upd (upd (upd (fun _ => .any) 0 (li cB xs)) 1 (li cB ys)) 5 (.int .i64 k)), fun _ => none⟩) (fun k => k ≤ xs.length ∧ NoneTill (neAt xs ys) k) (fun k => xs.length - k) (0) ?_ ?_ ?_); exact ⟨Nat.zero_le _, .zero _⟩; ((repeat' (first | exact sub_noneH (by assumption) | exact sub_none | refine sub_upd ?_ ?_ | refine sub_noneE ?_)) <;> simp [-List.getD_eq_getElem?_getD, -List.drop_one, ↓splitB_true, ↓splitB_false, go_sem]); rintro k ⟨hk, ht⟩)
    | (refine ⟨k + 1, ⟨by omega, ht.succ (by simp [neAt]; first | exact c25 | (apply Prod.ext <;> simp_all; done) | (simp_all [Prod.ext_iff]; done) | simp_all)⟩, by first | omega | (simp; done) | (simp; omega), ?_⟩; ((repeat' (first | exact sub_noneH (by assumption) | exact sub_none | refine sub_upd ?_ ?_ | refine sub_noneE ?_)) <;> simp [-List.getD_eq_getElem?_getD, -List.drop_one, ↓splitB_true, ↓splitB_false, go_sem]))
    | (refine AW_block ?_)
    | (refine AW_exit ?_; simp [-List.getD_eq_getElem?_getD, -List.drop_one, ↓splitB_true, ↓splitB_false, go_sem])
    | (refine AW_skip ?_; simp [-List.getD_eq_getElem?_getD, -List.drop_one, ↓splitB_true, ↓splitB_false, go_sem])
    | (refine AW_ret ?_; simp [-List.getD_eq_getElem?_getD, -List.drop_one, ↓splitB_true, ↓splitB_false, go_sem, Try.results43])
    | (intro hx; change AW _ _ _ _ _ _)
    | (refine ⟨?_, ?_⟩ <;> change AW _ _ _ _ _ _)
    | (intro hx; refine ⟨fun hs => ?_, fun hs => ?_⟩)
    | (refine ⟨fun hs => ?_, fun hs => ?_⟩)
    | (refine ⟨?_, fun hs => ?_⟩; change AW _ _ _ _ _ _)
    | (refine ⟨fun hs => ?_, ?_⟩; rotate_left; change AW _ _ _ _ _ _; rotate_left)))
  all_goals (first
    | (rintro rfl; simp at c10; done)
    | (rintro rfl; simp at c25; done)
    | exact eq_of_none (by omega) ht (by omega)
    | skip)
noncomputable def eqBoolS_pureC : Con := .pure fun
  | [.list n_xs c_xs, .list n_ys c_ys] => ((Is cB n_xs c_xs) ∧ (Is cB n_ys c_ys), .bool (decide ((de cB c_xs) = (de cB c_ys))))
  | _ => (False, .any)
attribute [go_sem] eqBoolS_pureC
theorem eqBoolS_pureC_ok : ConOk Try.prog 43 eqBoolS_pureC := by
  refine ⟨callable Try.func43 (by decide) rfl, fun args h => ?_⟩
  revert h
  dsimp only
  split
  · intro h
    obtain ⟨⟨xs, rfl, rfl⟩, ⟨ys, rfl, rfl⟩⟩ := h
    try simp only [de_cat] at *
    exact ⟨eqBoolS_pure xs ys, by simp [go_sem]⟩
  · intro h
    exact h.elim
noncomputable def Γa6 : FuncId → Con := ext Γa5 43 eqBoolS_pureC
attribute [go_sem] Γa6
theorem Γa6_ok : ∀ g, ConOk Try.prog g (Γa6 g) := ext_ok Γa5_ok eqBoolS_pureC_ok

theorem eqTransition_pure (p : Int) (q : Int) (r : Int) (s : Int) (p' : Int) (q' : Int) (r' : Int) (s' : Int)  : Pure Try.prog 143 [.st [.int .i64 p, .int .i64 q, .int .i64 r, .int .i64 s], .st [.int .i64 p', .int .i64 q', .int .i64 r', .int .i64 s']] (.bool (decide (p = p') && decide (q = q') && decide (r = r') && decide (s = s'))) := by
  refine Pure.of_walk Try.func143 rfl (by simp [Try.f143]) (by simp [-List.drop_one, go_sem]) fun B hK => ?_
  (repeat' (first
    | refine AW_seq ?_
    | refine AW_region (id := 0) Γa6_ok [] (by kernel_rfl) ?_; simp  [-List.getD_eq_getElem?_getD, -List.drop_one, ↓splitB_true, ↓splitB_false, go_sem]; try (refine AW_data hK 2 ?_; simp [go_sem]; refine AW_data hK 3 ?_; simp [go_sem])
    | refine AW_region (id := 1) Γa6_ok [] (by kernel_rfl) ?_; simp  [-List.getD_eq_getElem?_getD, -List.drop_one, ↓splitB_true, ↓splitB_false, go_sem]
    | refine AW_region (id := 2) Γa6_ok [] (by kernel_rfl) ?_; simp  [-List.getD_eq_getElem?_getD, -List.drop_one, ↓splitB_true, ↓splitB_false, go_sem]
    | refine AW_region (id := 3) Γa6_ok [] (by kernel_rfl) ?_; simp  [-List.getD_eq_getElem?_getD, -List.drop_one, ↓splitB_true, ↓splitB_false, go_sem]
    | refine AW_region (id := 4) Γa6_ok [] (by kernel_rfl) ?_; simp  [-List.getD_eq_getElem?_getD, -List.drop_one, ↓splitB_true, ↓splitB_false, go_sem]
    | refine AW_region (id := 5) Γa6_ok [] (by kernel_rfl) ?_; simp  [-List.getD_eq_getElem?_getD, -List.drop_one, ↓splitB_true, ↓splitB_false, go_sem]
    | refine AW_region (id := 6) Γa6_ok [] (by kernel_rfl) ?_; simp  [-List.getD_eq_getElem?_getD, -List.drop_one, ↓splitB_true, ↓splitB_false, go_sem]
    | refine AW_region (id := 7) Γa6_ok [] (by kernel_rfl) ?_; simp  [-List.getD_eq_getElem?_getD, -List.drop_one, ↓splitB_true, ↓splitB_false, go_sem]
    | refine AW_region (id := 8) Γa6_ok [] (by kernel_rfl) ?_; simp  [-List.getD_eq_getElem?_getD, -List.drop_one, ↓splitB_true, ↓splitB_false, go_sem]
    | refine AW_region (id := 9) Γa6_ok [] (by kernel_rfl) ?_; simp  [-List.getD_eq_getElem?_getD, -List.drop_one, ↓splitB_true, ↓splitB_false, go_sem]
    | refine AW_condA (c := .tmp 9) ?_; simp [-List.getD_eq_getElem?_getD, -List.drop_one, ↓splitB_true, ↓splitB_false, go_sem]; try first | (refine ⟨?_, ?_⟩ <;> change AW _ _ _ _ _ _) | (refine ⟨fun c9 => ?_, fun c9 => ?_⟩ <;> (try simp [B_iff, B_not] at c9))
    | refine AW_condA (c := .tmp 14) ?_; simp [-List.getD_eq_getElem?_getD, -List.drop_one, ↓splitB_true, ↓splitB_false, go_sem]; try first | (refine ⟨?_, ?_⟩ <;> change AW _ _ _ _ _ _) | (refine ⟨fun c14 => ?_, fun c14 => ?_⟩ <;> (try simp [B_iff, B_not] at c14))
    | refine AW_condA (c := .tmp 19) ?_; simp [-List.getD_eq_getElem?_getD, -List.drop_one, ↓splitB_true, ↓splitB_false, go_sem]; try first | (refine ⟨?_, ?_⟩ <;> change AW _ _ _ _ _ _) | (refine ⟨fun c19 => ?_, fun c19 => ?_⟩ <;> (try simp [B_iff, B_not] at c19))
    | refine AW_condA (c := .tmp 24) ?_; simp [-List.getD_eq_getElem?_getD, -List.drop_one, ↓splitB_true, ↓splitB_false, go_sem]; try first | (refine ⟨?_, ?_⟩ <;> change AW _ _ _ _ _ _) | (refine ⟨fun c24 => ?_, fun c24 => ?_⟩ <;> (try simp [B_iff, B_not] at c24))
    | (refine AW_block ?_)
    | (refine AW_exit ?_; simp [-List.getD_eq_getElem?_getD, -List.drop_one, ↓splitB_true, ↓splitB_false, go_sem])
    | (refine AW_skip ?_; simp [-List.getD_eq_getElem?_getD, -List.drop_one, ↓splitB_true, ↓splitB_false, go_sem])
    | (refine AW_ret ?_; simp [-List.getD_eq_getElem?_getD, -List.drop_one, ↓splitB_true, ↓splitB_false, go_sem, Try.results143])
    | (intro hx; change AW _ _ _ _ _ _)
    | (refine ⟨?_, ?_⟩ <;> change AW _ _ _ _ _ _)
    | (intro hx; refine ⟨fun hs => ?_, fun hs => ?_⟩)
    | (refine ⟨fun hs => ?_, fun hs => ?_⟩)
    | (refine ⟨?_, fun hs => ?_⟩; change AW _ _ _ _ _ _)
    | (refine ⟨fun hs => ?_, ?_⟩; rotate_left; change AW _ _ _ _ _ _; rotate_left)))
  all_goals (first
    | (simp_all; done)
    | (intros; simp_all; done)
    | skip)
noncomputable def eqTransition_pureC : Con := .pure fun
  | [.st [.int .i64 p, .int .i64 q, .int .i64 r, .int .i64 s], .st [.int .i64 p', .int .i64 q', .int .i64 r', .int .i64 s']] => (True, .bool (decide (p = p') && decide (q = q') && decide (r = r') && decide (s = s')))
  | _ => (False, .any)
attribute [go_sem] eqTransition_pureC
theorem eqTransition_pureC_ok : ConOk Try.prog 143 eqTransition_pureC := by
  refine ⟨callable Try.func143 (by decide) rfl, fun args h => ?_⟩
  revert h
  dsimp only
  split
  · intro h
    skip
    skip
    exact ⟨eqTransition_pure _ _ _ _ _ _ _ _, by simp [go_sem]⟩
  · intro h
    exact h.elim
noncomputable def Γa7 : FuncId → Con := ext Γa6 143 eqTransition_pureC
attribute [go_sem] Γa7
theorem Γa7_ok : ∀ g, ConOk Try.prog g (Γa7 g) := ext_ok Γa6_ok eqTransition_pureC_ok

theorem eqTransitionS_pure (xs : List Tr4) (ys : List Tr4)  : Pure Try.prog 76 [li cT xs, li cT ys] (.bool (decide (xs = ys))) := by
  refine Pure.of_walk Try.func76 rfl (by simp [Try.f76]) (by simp [-List.drop_one, go_sem]) fun B hK => ?_
  (repeat' (first
    | refine AW_seq ?_
    | (refine AW_len 0 rfl fun hm => ?_); refine AW_region (id := 0) Γa7_ok [] (by kernel_rfl) ?_; simp  [-List.getD_eq_getElem?_getD, -List.drop_one, ↓splitB_true, ↓splitB_false, go_sem]
    | refine AW_region (id := 1) Γa7_ok [] (by kernel_rfl) ?_; simp  [-List.getD_eq_getElem?_getD, -List.drop_one, ↓splitB_true, ↓splitB_false, go_sem]
    | refine AW_region (id := 2) Γa7_ok [] (by kernel_rfl) ?_; simp  [-List.getD_eq_getElem?_getD, -List.drop_one, ↓splitB_true, ↓splitB_false, go_sem]
    | refine AW_region (id := 3) Γa7_ok [] (by kernel_rfl) ?_; simp  [-List.getD_eq_getElem?_getD, -List.drop_one, ↓splitB_true, ↓splitB_false, go_sem]
    | refine AW_region (id := 4) Γa7_ok [] (by kernel_rfl) ?_; simp  [-List.getD_eq_getElem?_getD, -List.drop_one, ↓splitB_true, ↓splitB_false, go_sem]
    | (have cy : k < ys.length := by omega); refine AW_region_draw (id := 6) Γa7_ok mixed [] [5] (by kernel_rfl) (by kernel_rfl) (by simp [-List.getD_eq_getElem?_getD, -List.drop_one, ↓splitB_true, ↓splitB_false, go_sem, c14, ne_nil c14, Nat.sub_pos_of_lt c14, cy, ne_nil cy, Nat.sub_pos_of_lt cy]) ?_; simp  [-List.getD_eq_getElem?_getD, -List.drop_one, ↓splitB_true, ↓splitB_false, go_sem, c14, ne_nil c14, Nat.sub_pos_of_lt c14, cy, ne_nil cy, Nat.sub_pos_of_lt cy]
    | refine AW_region (id := 7) Γa7_ok [] (by kernel_rfl) ?_; simp  [-List.getD_eq_getElem?_getD, -List.drop_one, ↓splitB_true, ↓splitB_false, go_sem]
    | refine AW_region (id := 5) Γa7_ok [] (by kernel_rfl) ?_; simp  [-List.getD_eq_getElem?_getD, -List.drop_one, ↓splitB_true, ↓splitB_false, go_sem, wrapS (k := k) (by omega)]
    | refine AW_region (id := 8) Γa7_ok [] (by kernel_rfl) ?_; simp  [-List.getD_eq_getElem?_getD, -List.drop_one, ↓splitB_true, ↓splitB_false, go_sem]
    | refine AW_condA (c := .tmp 10) ?_; simp [-List.getD_eq_getElem?_getD, -List.drop_one, ↓splitB_true, ↓splitB_false, go_sem]; try first | (refine ⟨?_, ?_⟩ <;> change AW _ _ _ _ _ _) | (refine ⟨fun c10 => ?_, fun c10 => ?_⟩ <;> (try simp [B_iff, B_not] at c10))
    | refine AW_condA (c := .tmp 14) ?_; simp [-List.getD_eq_getElem?_getD, -List.drop_one, ↓splitB_true, ↓splitB_false, go_sem]; try first | (refine ⟨?_, ?_⟩ <;> change AW _ _ _ _ _ _) | (refine ⟨fun c14 => ?_, fun c14 => ?_⟩ <;> (try simp [B_iff, B_not] at c14))
    | refine AW_condA (c := .tmp 26) ?_; simp [-List.getD_eq_getElem?_getD, -List.drop_one, ↓splitB_true, ↓splitB_false, go_sem]; try first | (refine ⟨?_, ?_⟩ <;> change AW _ _ _ _ _ _) | (refine ⟨fun c26 => ?_, fun c26 => ?_⟩ <;> (try simp [B_iff, B_not] at c26))
    | (refine AW_block (id := 0) (AW_loop (ι := Nat) (fun k : Nat => ⟨(upd (upd (upd (fun _ => .any) 0 (li cT xs)) 1 (li cT ys)) 5 (.int .i64 k)), fun _ => none⟩) (fun k => k ≤ xs.length ∧ NoneTill (neAt xs ys) k) (fun k => xs.length - k) (0) ?_ ?_ ?_); exact ⟨Nat.zero_le _, .zero _⟩; ((repeat' (first | exact sub_noneH (by assumption) | exact sub_none | refine sub_upd ?_ ?_ | refine sub_noneE ?_)) <;> simp [-List.getD_eq_getElem?_getD, -List.drop_one, ↓splitB_true, ↓splitB_false, go_sem]); rintro k ⟨hk, ht⟩)
    | (refine ⟨k + 1, ⟨by omega, ht.succ (by simp [neAt]; first | exact c26 | (apply Prod.ext <;> simp_all; done) | (simp_all [Prod.ext_iff]; done) | simp_all)⟩, by first | omega | (simp; done) | (simp; omega), ?_⟩; ((repeat' (first | exact sub_noneH (by assumption) | exact sub_none | refine sub_upd ?_ ?_ | refine sub_noneE ?_)) <;> simp [-List.getD_eq_getElem?_getD, -List.drop_one, ↓splitB_true, ↓splitB_false, go_sem]))
    | (refine AW_block ?_)
    | (refine AW_exit ?_; simp [-List.getD_eq_getElem?_getD, -List.drop_one, ↓splitB_true, ↓splitB_false, go_sem])
    | (refine AW_skip ?_; simp [-List.getD_eq_getElem?_getD, -List.drop_one, ↓splitB_true, ↓splitB_false, go_sem])
    | (refine AW_ret ?_; simp [-List.getD_eq_getElem?_getD, -List.drop_one, ↓splitB_true, ↓splitB_false, go_sem, Try.results76])
    | (intro hx; change AW _ _ _ _ _ _)
    | (refine ⟨?_, ?_⟩ <;> change AW _ _ _ _ _ _)
    | (intro hx; refine ⟨fun hs => ?_, fun hs => ?_⟩)
    | (refine ⟨fun hs => ?_, fun hs => ?_⟩)
    | (refine ⟨?_, fun hs => ?_⟩; change AW _ _ _ _ _ _)
    | (refine ⟨fun hs => ?_, ?_⟩; rotate_left; change AW _ _ _ _ _ _; rotate_left)))
  all_goals (first
    | (rintro rfl; simp at c10; done)
    | (rintro rfl; simp at c26; done)
    | exact eq_of_none (by omega) ht (by omega)
    | skip)
noncomputable def eqTransitionS_pureC : Con := .pure fun
  | [.list n_xs c_xs, .list n_ys c_ys] => ((Is cT n_xs c_xs) ∧ (Is cT n_ys c_ys), .bool (decide ((de cT c_xs) = (de cT c_ys))))
  | _ => (False, .any)
attribute [go_sem] eqTransitionS_pureC
theorem eqTransitionS_pureC_ok : ConOk Try.prog 76 eqTransitionS_pureC := by
  refine ⟨callable Try.func76 (by decide) rfl, fun args h => ?_⟩
  revert h
  dsimp only
  split
  · intro h
    obtain ⟨⟨xs, rfl, rfl⟩, ⟨ys, rfl, rfl⟩⟩ := h
    try simp only [de_cat] at *
    exact ⟨eqTransitionS_pure xs ys, by simp [go_sem]⟩
  · intro h
    exact h.elim
noncomputable def Γa8 : FuncId → Con := ext Γa7 76 eqTransitionS_pureC
attribute [go_sem] Γa8
theorem Γa8_ok : ∀ g, ConOk Try.prog g (Γa8 g) := ext_ok Γa7_ok eqTransitionS_pureC_ok

theorem szAutomaton_pure (a : List Int) (b : List Bool) (c : List Tr4) (left : Int) (h0 : -1 ≤ left) (h1 : left ≤ 1048576) : Pure Try.prog 19 [.st [li cI a, li cB b, li cT c], .int .i64 left] (.int .i64 (szOf left (a.length + b.length + c.length))) := by
  refine Pure.of_walk Try.func19 rfl (by simp [Try.f19]) (by simp [-List.drop_one, go_sem]) fun B hK => ?_
  (repeat' (first
    | refine AW_seq ?_
    | refine AW_region (id := 0) Γa8_ok [] (by kernel_rfl) ?_; simp  [-List.getD_eq_getElem?_getD, -List.drop_one, ↓splitB_true, ↓splitB_false, go_sem, szOf_lo h0, szOf_hi h1, szOf_szOf h0]; try (refine AW_data hK 2 ?_; simp [go_sem])
    | refine AW_region (id := 1) Γa8_ok [] (by kernel_rfl) ?_; simp  [-List.getD_eq_getElem?_getD, -List.drop_one, ↓splitB_true, ↓splitB_false, go_sem, h0, h1, szOf_lo h0, szOf_hi h1, szOf_szOf h0]
    | refine AW_region (id := 2) Γa8_ok [] (by kernel_rfl) ?_; simp  [-List.getD_eq_getElem?_getD, -List.drop_one, ↓splitB_true, ↓splitB_false, go_sem, szOf_lo h0, szOf_hi h1, szOf_szOf h0]
    | refine AW_region (id := 3) Γa8_ok [] (by kernel_rfl) ?_; simp  [-List.getD_eq_getElem?_getD, -List.drop_one, ↓splitB_true, ↓splitB_false, go_sem, szOf_lo h0, szOf_hi h1, szOf_szOf h0]
    | refine AW_region (id := 4) Γa8_ok [] (by kernel_rfl) ?_; simp  [-List.getD_eq_getElem?_getD, -List.drop_one, ↓splitB_true, ↓splitB_false, go_sem, szOf_lo h0, szOf_hi h1, szOf_szOf h0]
    | refine AW_region (id := 5) Γa8_ok [] (by kernel_rfl) ?_; simp  [-List.getD_eq_getElem?_getD, -List.drop_one, ↓splitB_true, ↓splitB_false, go_sem, szOf_lo h0, szOf_hi h1, szOf_szOf h0]
    | refine AW_region (id := 6) Γa8_ok [] (by kernel_rfl) ?_; simp  [-List.getD_eq_getElem?_getD, -List.drop_one, ↓splitB_true, ↓splitB_false, go_sem, szOf_lo h0, szOf_hi h1, szOf_szOf h0]
    | refine AW_region (id := 7) Γa8_ok [] (by kernel_rfl) ?_; simp  [-List.getD_eq_getElem?_getD, -List.drop_one, ↓splitB_true, ↓splitB_false, go_sem, szOf_lo h0, szOf_hi h1, szOf_szOf h0]
    | refine AW_region (id := 8) Γa8_ok [] (by kernel_rfl) ?_; simp  [-List.getD_eq_getElem?_getD, -List.drop_one, ↓splitB_true, ↓splitB_false, go_sem, szOf_lo h0, szOf_hi h1, szOf_szOf h0]
    | refine AW_region (id := 9) Γa8_ok [] (by kernel_rfl) ?_; simp  [-List.getD_eq_getElem?_getD, -List.drop_one, ↓splitB_true, ↓splitB_false, go_sem, szOf_lo h0, szOf_hi h1, szOf_szOf h0]
    | refine AW_region (id := 10) Γa8_ok [] (by kernel_rfl) ?_; simp  [-List.getD_eq_getElem?_getD, -List.drop_one, ↓splitB_true, ↓splitB_false, go_sem, szOf_lo h0, szOf_hi h1, szOf_szOf h0]
    | refine AW_condA (c := .tmp 10) ?_; simp [-List.getD_eq_getElem?_getD, -List.drop_one, ↓splitB_true, ↓splitB_false, go_sem, szOf_lo h0, szOf_hi h1, szOf_szOf h0]; try first | (refine ⟨?_, ?_⟩ <;> change AW _ _ _ _ _ _) | (refine ⟨fun c10 => ?_, fun c10 => ?_⟩ <;> (try simp [B_iff, B_not] at c10))
    | refine AW_condA (c := .tmp 16) ?_; simp [-List.getD_eq_getElem?_getD, -List.drop_one, ↓splitB_true, ↓splitB_false, go_sem, szOf_lo h0, szOf_hi h1, szOf_szOf h0]; try first | (refine ⟨?_, ?_⟩ <;> change AW _ _ _ _ _ _) | (refine ⟨fun c16 => ?_, fun c16 => ?_⟩ <;> (try simp [B_iff, B_not] at c16))
    | refine AW_condA (c := .tmp 22) ?_; simp [-List.getD_eq_getElem?_getD, -List.drop_one, ↓splitB_true, ↓splitB_false, go_sem, szOf_lo h0, szOf_hi h1, szOf_szOf h0]; try first | (refine ⟨?_, ?_⟩ <;> change AW _ _ _ _ _ _) | (refine ⟨fun c22 => ?_, fun c22 => ?_⟩ <;> (try simp [B_iff, B_not] at c22))
    | (refine AW_block ?_)
    | (refine AW_exit ?_; simp [-List.getD_eq_getElem?_getD, -List.drop_one, ↓splitB_true, ↓splitB_false, go_sem])
    | (refine AW_skip ?_; simp [-List.getD_eq_getElem?_getD, -List.drop_one, ↓splitB_true, ↓splitB_false, go_sem])
    | (refine AW_ret ?_; simp [-List.getD_eq_getElem?_getD, -List.drop_one, ↓splitB_true, ↓splitB_false, go_sem, Try.results19, szOf_lo h0, szOf_hi h1, szOf_szOf h0])
    | (intro hx; change AW _ _ _ _ _ _)
    | (refine ⟨?_, ?_⟩ <;> change AW _ _ _ _ _ _)
    | (intro hx; refine ⟨fun hs => ?_, fun hs => ?_⟩)
    | (refine ⟨fun hs => ?_, fun hs => ?_⟩)
    | (refine ⟨?_, fun hs => ?_⟩; change AW _ _ _ _ _ _)
    | (refine ⟨fun hs => ?_, ?_⟩; rotate_left; change AW _ _ _ _ _ _; rotate_left)))
  all_goals (first
    | exact (szOf_neg (by assumption) h0 (by omega)).symm
    | skip)
noncomputable def szAutomaton_pureC : Con := .pure fun
  | [.st [.list n_a c_a, .list n_b c_b, .list n_c c_c], .int .i64 left] => ((Is cI n_a c_a) ∧ (Is cB n_b c_b) ∧ (Is cT n_c c_c) ∧ (-1 ≤ left) ∧ (left ≤ 1048576), .int .i64 (szOf left ((de cI c_a).length + (de cB c_b).length + (de cT c_c).length)))
  | _ => (False, .any)
attribute [go_sem] szAutomaton_pureC
theorem szAutomaton_pureC_ok : ConOk Try.prog 19 szAutomaton_pureC := by
  refine ⟨callable Try.func19 (by decide) rfl, fun args h => ?_⟩
  revert h
  dsimp only
  split
  · intro h
    obtain ⟨⟨a, rfl, rfl⟩, ⟨b, rfl, rfl⟩, ⟨c, rfl, rfl⟩, h0, h1⟩ := h
    try simp only [de_cat] at *
    exact ⟨szAutomaton_pure a b c _ h0 h1, by simp [go_sem]⟩
  · intro h
    exact h.elim
noncomputable def Γa9 : FuncId → Con := ext Γa8 19 szAutomaton_pureC
attribute [go_sem] Γa9
theorem Γa9_ok : ∀ g, ConOk Try.prog g (Γa9 g) := ext_ok Γa8_ok szAutomaton_pureC_ok

theorem toAutomaton_pure (a : List Int) (b : List Bool) (c : List Tr4) (h0 : a.length ≤ 1048576) (h1 : b.length ≤ 1048576) (h2 : c.length ≤ 1048576) : Pure Try.prog 21 [.st [li cI a, li cB b, li cT c]] (.st [fr 1 cI a, fr 1 cB b, fr 4 cT c]) := by
  refine Pure.of_walk Try.func21 rfl (by simp [Try.f21]) (by simp [-List.drop_one, go_sem]) fun B hK => ?_
  (repeat' (first
    | refine AW_seq ?_
    | refine AW_region (id := 0) Γa9_ok [] (by kernel_rfl) ?_; simp  [-List.getD_eq_getElem?_getD, -List.drop_one, ↓splitB_true, ↓splitB_false, go_sem, h0, h1, h2]; try (refine AW_data hK 1 ?_; simp [go_sem])
    | refine AW_region (id := 1) Γa9_ok [] (by kernel_rfl) ?_; simp  [-List.getD_eq_getElem?_getD, -List.drop_one, ↓splitB_true, ↓splitB_false, go_sem, h0, h1, h2]; try (refine AW_matBox 3 rfl fun b3 hb3 => ?_)
    | refine AW_region (id := 2) Γa9_ok [] (by kernel_rfl) ?_; simp  [-List.getD_eq_getElem?_getD, -List.drop_one, ↓splitB_true, ↓splitB_false, go_sem, h0, h1, h2]
    | refine AW_region (id := 3) Γa9_ok [] (by kernel_rfl) ?_; simp  [-List.getD_eq_getElem?_getD, -List.drop_one, ↓splitB_true, ↓splitB_false, go_sem, h0, h1, h2]
    | refine AW_region (id := 4) Γa9_ok [] (by kernel_rfl) ?_; simp  [-List.getD_eq_getElem?_getD, -List.drop_one, ↓splitB_true, ↓splitB_false, go_sem, h0, h1, h2]
    | refine AW_region (id := 5) Γa9_ok [] (by kernel_rfl) ?_; simp  [-List.getD_eq_getElem?_getD, -List.drop_one, ↓splitB_true, ↓splitB_false, go_sem, h0, h1, h2]
    | (refine AW_block ?_)
    | (refine AW_exit ?_; simp [-List.getD_eq_getElem?_getD, -List.drop_one, ↓splitB_true, ↓splitB_false, go_sem])
    | (refine AW_skip ?_; simp [-List.getD_eq_getElem?_getD, -List.drop_one, ↓splitB_true, ↓splitB_false, go_sem])
    | (refine AW_ret ?_; simp [-List.getD_eq_getElem?_getD, -List.drop_one, ↓splitB_true, ↓splitB_false, go_sem, Try.results21, h0, h1, h2])
    | (intro hx; change AW _ _ _ _ _ _)
    | (refine ⟨?_, ?_⟩ <;> change AW _ _ _ _ _ _)
    | (intro hx; refine ⟨fun hs => ?_, fun hs => ?_⟩)
    | (refine ⟨fun hs => ?_, fun hs => ?_⟩)
    | (refine ⟨?_, fun hs => ?_⟩; change AW _ _ _ _ _ _)
    | (refine ⟨fun hs => ?_, ?_⟩; rotate_left; change AW _ _ _ _ _ _; rotate_left)))
noncomputable def toAutomaton_pureC : Con := .pure fun
  | [.st [.list n_a c_a, .list n_b c_b, .list n_c c_c]] => ((Is cI n_a c_a) ∧ (Is cB n_b c_b) ∧ (Is cT n_c c_c) ∧ ((de cI c_a).length ≤ 1048576) ∧ ((de cB c_b).length ≤ 1048576) ∧ ((de cT c_c).length ≤ 1048576), .st [fr 1 cI (de cI c_a), fr 1 cB (de cB c_b), fr 4 cT (de cT c_c)])
  | _ => (False, .any)
attribute [go_sem] toAutomaton_pureC
theorem toAutomaton_pureC_ok : ConOk Try.prog 21 toAutomaton_pureC := by
  refine ⟨callable Try.func21 (by decide) rfl, fun args h => ?_⟩
  revert h
  dsimp only
  split
  · intro h
    obtain ⟨⟨a, rfl, rfl⟩, ⟨b, rfl, rfl⟩, ⟨c, rfl, rfl⟩, h0, h1, h2⟩ := h
    try simp only [de_cat] at *
    exact ⟨toAutomaton_pure a b c h0 h1 h2, by simp [go_sem]⟩
  · intro h
    exact h.elim
noncomputable def Γa10 : FuncId → Con := ext Γa9 21 toAutomaton_pureC
attribute [go_sem] Γa10
theorem Γa10_ok : ∀ g, ConOk Try.prog g (Γa10 g) := ext_ok Γa9_ok toAutomaton_pureC_ok

theorem eqAutomaton_pure (a : List Int) (b : List Bool) (c : List Tr4) (a' : List Int) (b' : List Bool) (c' : List Tr4)  : Pure Try.prog 23 [.st [li cI a, li cB b, li cT c], .st [li cI a', li cB b', li cT c']] (.bool (decide (a = a') && decide (b = b') && decide (c = c'))) := by
  refine Pure.of_walk Try.func23 rfl (by simp [Try.f23]) (by simp [-List.drop_one, go_sem]) fun B hK => ?_
  (repeat' (first
    | refine AW_seq ?_
    | refine AW_region (id := 0) Γa10_ok [] (by kernel_rfl) ?_; simp  [-List.getD_eq_getElem?_getD, -List.drop_one, ↓splitB_true, ↓splitB_false, go_sem]; try (refine AW_data hK 2 ?_; simp [go_sem]; refine AW_data hK 3 ?_; simp [go_sem])
    | refine AW_region (id := 1) Γa10_ok [] (by kernel_rfl) ?_; simp  [-List.getD_eq_getElem?_getD, -List.drop_one, ↓splitB_true, ↓splitB_false, go_sem]
    | refine AW_region (id := 2) Γa10_ok [] (by kernel_rfl) ?_; simp  [-List.getD_eq_getElem?_getD, -List.drop_one, ↓splitB_true, ↓splitB_false, go_sem]
    | refine AW_region (id := 3) Γa10_ok [] (by kernel_rfl) ?_; simp  [-List.getD_eq_getElem?_getD, -List.drop_one, ↓splitB_true, ↓splitB_false, go_sem]
    | refine AW_region (id := 4) Γa10_ok [] (by kernel_rfl) ?_; simp  [-List.getD_eq_getElem?_getD, -List.drop_one, ↓splitB_true, ↓splitB_false, go_sem]
    | refine AW_region (id := 5) Γa10_ok [] (by kernel_rfl) ?_; simp  [-List.getD_eq_getElem?_getD, -List.drop_one, ↓splitB_true, ↓splitB_false, go_sem]
    | refine AW_region (id := 6) Γa10_ok [] (by kernel_rfl) ?_; simp  [-List.getD_eq_getElem?_getD, -List.drop_one, ↓splitB_true, ↓splitB_false, go_sem]
    | refine AW_region (id := 7) Γa10_ok [] (by kernel_rfl) ?_; simp  [-List.getD_eq_getElem?_getD, -List.drop_one, ↓splitB_true, ↓splitB_false, go_sem]
    | refine AW_condA (c := .tmp 10) ?_; simp [-List.getD_eq_getElem?_getD, -List.drop_one, ↓splitB_true, ↓splitB_false, go_sem]; try first | (refine ⟨?_, ?_⟩ <;> change AW _ _ _ _ _ _) | (refine ⟨fun c10 => ?_, fun c10 => ?_⟩ <;> (try simp [B_iff, B_not] at c10))
    | refine AW_condA (c := .tmp 16) ?_; simp [-List.getD_eq_getElem?_getD, -List.drop_one, ↓splitB_true, ↓splitB_false, go_sem]; try first | (refine ⟨?_, ?_⟩ <;> change AW _ _ _ _ _ _) | (refine ⟨fun c16 => ?_, fun c16 => ?_⟩ <;> (try simp [B_iff, B_not] at c16))
    | refine AW_condA (c := .tmp 22) ?_; simp [-List.getD_eq_getElem?_getD, -List.drop_one, ↓splitB_true, ↓splitB_false, go_sem]; try first | (refine ⟨?_, ?_⟩ <;> change AW _ _ _ _ _ _) | (refine ⟨fun c22 => ?_, fun c22 => ?_⟩ <;> (try simp [B_iff, B_not] at c22))
    | (refine AW_block ?_)
    | (refine AW_exit ?_; simp [-List.getD_eq_getElem?_getD, -List.drop_one, ↓splitB_true, ↓splitB_false, go_sem])
    | (refine AW_skip ?_; simp [-List.getD_eq_getElem?_getD, -List.drop_one, ↓splitB_true, ↓splitB_false, go_sem])
    | (refine AW_ret ?_; simp [-List.getD_eq_getElem?_getD, -List.drop_one, ↓splitB_true, ↓splitB_false, go_sem, Try.results23])
    | (intro hx; change AW _ _ _ _ _ _)
    | (refine ⟨?_, ?_⟩ <;> change AW _ _ _ _ _ _)
    | (intro hx; refine ⟨fun hs => ?_, fun hs => ?_⟩)
    | (refine ⟨fun hs => ?_, fun hs => ?_⟩)
    | (refine ⟨?_, fun hs => ?_⟩; change AW _ _ _ _ _ _)
    | (refine ⟨fun hs => ?_, ?_⟩; rotate_left; change AW _ _ _ _ _ _; rotate_left)))
  all_goals (first
    | (simp_all; done)
    | (intros; simp_all; done)
    | skip)
noncomputable def eqAutomaton_pureC : Con := .pure fun
  | [.st [.list n_a c_a, .list n_b c_b, .list n_c c_c], .st [.list n_a' c_a', .list n_b' c_b', .list n_c' c_c']] => ((Is cI n_a c_a) ∧ (Is cB n_b c_b) ∧ (Is cT n_c c_c) ∧ (Is cI n_a' c_a') ∧ (Is cB n_b' c_b') ∧ (Is cT n_c' c_c'), .bool (decide ((de cI c_a) = (de cI c_a')) && decide ((de cB c_b) = (de cB c_b')) && decide ((de cT c_c) = (de cT c_c'))))
  | _ => (False, .any)
attribute [go_sem] eqAutomaton_pureC
theorem eqAutomaton_pureC_ok : ConOk Try.prog 23 eqAutomaton_pureC := by
  refine ⟨callable Try.func23 (by decide) rfl, fun args h => ?_⟩
  revert h
  dsimp only
  split
  · intro h
    obtain ⟨⟨a, rfl, rfl⟩, ⟨b, rfl, rfl⟩, ⟨c, rfl, rfl⟩, ⟨a', rfl, rfl⟩, ⟨b', rfl, rfl⟩, ⟨c', rfl, rfl⟩⟩ := h
    try simp only [de_cat] at *
    exact ⟨eqAutomaton_pure a b c a' b' c', by simp [go_sem]⟩
  · intro h
    exact h.elim
noncomputable def Γa11 : FuncId → Con := ext Γa10 23 eqAutomaton_pureC
attribute [go_sem] Γa11
theorem Γa11_ok : ∀ g, ConOk Try.prog g (Γa11 g) := ext_ok Γa10_ok eqAutomaton_pureC_ok

end Go.Proofs.Ytoklpofekcclhaa.Vm


/-
  AutomatonSame, both ways. No conditions.
-/
namespace Go.Proofs.Ytoklpofekcclhaa.Vm
open Go
set_option linter.unusedVariables false
set_option linter.unusedSimpArgs false
set_option maxRecDepth 200000

theorem st4_tr : St4 Try.prog 88 := by
  refine ⟨by kernel_rfl, fun a b c d a' b' c' d' w => ?_⟩
  have hI := Try.underlying3
  have hS : Try.prog.underlying 88 = some (.struct (Try.prog.fieldsOf 88)) := by kernel_rfl
  have hp : Try.prog.stoodInHeld 88 = false := by kernel_rfl
  rw [show (10000 : Nat) = 9999 + 1 from rfl, run_equalIn_agg w 9999 _ _ _ hS hp]
  have hz : ∀ w, (sizeOf 3).run Try.prog w = .ok 1 w := run_size (P := Try.prog) (ty3)
  have ha : ∀ w, (isAgg 3).run Try.prog w = .ok false w := run_agg (P := Try.prog) (ty3)
  have hf : (Try.prog.fieldsOf 88).toList.map (fun f => (f.name, f.type, f.offset)) = [("From", 3, 0), ("Care", 3, 1), ("Value", 3, 2), ("To", 3, 3)] := by kernel_rfl
  simp only [Program.fieldsOf, Try.underlying88]
  simp [Op.eqFields, part, ha, run_equalIn_int w 9998 _ _ _ _ _ hI]
  by_cases h1 : a = a' <;> by_cases h2 : b = b' <;> by_cases h3 : c = c' <;> by_cases h4 : d = d' <;> simp [h1, h2, h3, h4]
@[go_sem] theorem st4_on : St4 Try.prog 88 = True := eq_true st4_tr

noncomputable def Γa12 : FuncId → Con := Γa11
attribute [go_sem] Γa12
theorem Γa12_ok : ∀ g, ConOk Try.prog g (Γa12 g) := Γa11_ok

noncomputable def Γa13 : FuncId → Con := Γa12
attribute [go_sem] Γa13
theorem Γa13_ok : ∀ g, ConOk Try.prog g (Γa13 g) := Γa12_ok

noncomputable def Γa14 : FuncId → Con := Γa13
attribute [go_sem] Γa14
theorem Γa14_ok : ∀ g, ConOk Try.prog g (Γa14 g) := Γa13_ok

noncomputable def Γa15 : FuncId → Con := Γa14
attribute [go_sem] Γa15
theorem Γa15_ok : ∀ g, ConOk Try.prog g (Γa15 g) := Γa14_ok

noncomputable def Γa16 : FuncId → Con := Γa15
attribute [go_sem] Γa16
theorem Γa16_ok : ∀ g, ConOk Try.prog g (Γa16 g) := Γa15_ok

noncomputable def Γa17 : FuncId → Con := Γa16
attribute [go_sem] Γa17
theorem Γa17_ok : ∀ g, ConOk Try.prog g (Γa17 g) := Γa16_ok

end Go.Proofs.Ytoklpofekcclhaa.Vm


/-
  AutomatonValid, both ways. No conditions.
-/
namespace Go.Proofs.Ytoklpofekcclhaa.Vm
open Go
set_option linter.unusedVariables false
set_option linter.unusedSimpArgs false
set_option maxRecDepth 200000

/-! ### Bits -/
theorem bits_iff (a b : BitVec 64) : a &&& b = a ↔ a &&& ~~~b = 0#64 := by
  constructor
  · intro h
    apply BitVec.eq_of_getLsbD_eq
    intro i hi
    have := congrArg (fun x => x.getLsbD i) h
    simp only [BitVec.getLsbD_and] at this
    simp only [BitVec.getLsbD_and, BitVec.getLsbD_not, BitVec.getLsbD_zero]
    cases h1 : a.getLsbD i <;> cases h2 : b.getLsbD i <;> simp_all
  · intro h
    apply BitVec.eq_of_getLsbD_eq
    intro i hi
    have := congrArg (fun x => x.getLsbD i) h
    simp only [BitVec.getLsbD_and, BitVec.getLsbD_not, BitVec.getLsbD_zero] at this
    simp only [BitVec.getLsbD_and]
    cases h1 : a.getLsbD i <;> cases h2 : b.getLsbD i <;> simp_all
theorem bits_same {v c : Int} (h0 : 0 ≤ v) (h1 : v ≤ 9223372036854775807) : (bitsD .and .i64 v c = v) = (bitsD .andNot .i64 v c = 0) := by
  have key : ∀ x : BitVec 64, x.toNat ≤ v.toNat → IntKind.i64.wrap (x.toNat : Int) = x.toNat := fun x hx => wrap_in (by omega) (by omega)
  have hv : (BitVec.ofInt 64 v).toNat = v.toNat := by
    rw [BitVec.toNat_ofInt]
    have : v % ((2 ^ 64 : Nat) : Int) = v := Int.emod_eq_of_lt h0 (by omega)
    rw [this]
  have k1 : (BitVec.ofInt 64 v &&& BitVec.ofInt 64 c).toNat ≤ v.toNat := by rw [BitVec.toNat_and, hv]; exact Nat.and_le_left
  have k2 : (BitVec.ofInt 64 v &&& ~~~ BitVec.ofInt 64 c).toNat ≤ v.toNat := by rw [BitVec.toNat_and, hv]; exact Nat.and_le_left
  have e1 : bitsD .and .i64 v c = ((BitVec.ofInt 64 v &&& BitVec.ofInt 64 c).toNat : Int) := key _ k1
  have e2 : bitsD .andNot .i64 v c = ((BitVec.ofInt 64 v &&& ~~~ BitVec.ofInt 64 c).toNat : Int) := key _ k2
  rw [e1, e2, eq_iff_iff]
  have b := bits_iff (BitVec.ofInt 64 v) (BitVec.ofInt 64 c)
  constructor
  · intro h
    have : BitVec.ofInt 64 v &&& BitVec.ofInt 64 c = BitVec.ofInt 64 v := BitVec.eq_of_toNat_eq (by rw [hv]; omega)
    rw [b.1 this]; rfl
  · intro h
    have q : (BitVec.ofInt 64 v &&& ~~~ BitVec.ofInt 64 c).toNat = 0 := by omega
    have : BitVec.ofInt 64 v &&& ~~~ BitVec.ofInt 64 c = 0#64 := BitVec.eq_of_toNat_eq (q.trans rfl)
    rw [b.2 this, hv]; omega

/-- A valid edge. -/
def EdgeOk (e : Tr4) (n : Int) : Prop := 0 ≤ e.1 ∧ e.1 < n ∧ 0 ≤ e.2.2.2 ∧ e.2.2.2 < n ∧ 0 ≤ e.2.1 ∧ e.2.1 ≤ 7 ∧ 0 ≤ e.2.2.1 ∧ bitsD .and .i64 e.2.2.1 e.2.1 = e.2.2.1

set_option maxHeartbeats 2000000 in

theorem l7Edge_pure (p : Int) (q : Int) (r : Int) (s : Int) (n : Int)  : Pure Try.prog 137 [.st [.int .i64 p, .int .i64 q, .int .i64 r, .int .i64 s], .int .i64 n] (.bool (B (EdgeOk (p, q, r, s) n))) := by
  refine Pure.of_walk Try.func137 rfl (by simp [Try.f137]) (by simp [-List.drop_one, go_sem]) fun B hK => ?_
  (repeat' (first
    | refine AW_seq ?_
    | refine AW_region (id := 0) Γa17_ok [] (by kernel_rfl) ?_; simp  [-List.getD_eq_getElem?_getD, -List.drop_one, ↓splitB_true, ↓splitB_false, go_sem]; try (refine AW_data hK 2 ?_; simp [go_sem])
    | refine AW_region (id := 1) Γa17_ok [8, 14, 19, 25, 30, 35, 40] (by kernel_rfl) ?_; simp  [-List.getD_eq_getElem?_getD, -List.drop_one, ↓splitB_true, ↓splitB_false, go_sem]; try (refine ⟨fun s1a => ?_, fun s1a => ?_⟩ <;> (try simp [B_iff, B_not] at s1a) <;> try (refine ⟨fun s1b => ?_, fun s1b => ?_⟩ <;> (try simp [B_iff, B_not] at s1b) <;> try (refine ⟨fun s1c => ?_, fun s1c => ?_⟩ <;> (try simp [B_iff, B_not] at s1c) <;> try (refine ⟨fun s1d => ?_, fun s1d => ?_⟩ <;> (try simp [B_iff, B_not] at s1d) <;> try (refine ⟨fun s1e => ?_, fun s1e => ?_⟩ <;> (try simp [B_iff, B_not] at s1e) <;> try (refine ⟨fun s1f => ?_, fun s1f => ?_⟩ <;> (try simp [B_iff, B_not] at s1f) <;> try (refine ⟨fun s1g => ?_, fun s1g => ?_⟩ <;> (try simp [B_iff, B_not] at s1g) <;> try (refine ⟨fun s1h => ?_, fun s1h => ?_⟩ <;> (try simp [B_iff, B_not] at s1h)))))))))
    | (refine AW_block ?_)
    | (refine AW_exit ?_; simp [-List.getD_eq_getElem?_getD, -List.drop_one, ↓splitB_true, ↓splitB_false, go_sem])
    | (refine AW_skip ?_; simp [-List.getD_eq_getElem?_getD, -List.drop_one, ↓splitB_true, ↓splitB_false, go_sem])
    | (refine AW_ret ?_; simp [-List.getD_eq_getElem?_getD, -List.drop_one, ↓splitB_true, ↓splitB_false, go_sem, Try.results137])
    | (intro hx; change AW _ _ _ _ _ _)
    | (refine ⟨?_, ?_⟩ <;> change AW _ _ _ _ _ _)
    | (intro hx; refine ⟨fun hs => ?_, fun hs => ?_⟩)
    | (refine ⟨fun hs => ?_, fun hs => ?_⟩)
    | (refine ⟨?_, fun hs => ?_⟩; change AW _ _ _ _ _ _)
    | (refine ⟨fun hs => ?_, ?_⟩; rotate_left; change AW _ _ _ _ _ _; rotate_left)))
  all_goals (first
    | (rintro ⟨g1, g2, g3, g4, g5, g6, g7, g8⟩; dsimp only at *; omega)
    | (rw [Bool.eq_iff_iff, B_iff, decide_eq_true_eq]; exact ⟨fun h => ⟨by assumption, by assumption, by assumption, by assumption, by assumption, by assumption, by assumption, h⟩, fun h => h.2.2.2.2.2.2.2⟩)
    | skip)
noncomputable def l7Edge_pureC : Con := .pure fun
  | [.st [.int .i64 p, .int .i64 q, .int .i64 r, .int .i64 s], .int .i64 n] => (True, .bool (B (EdgeOk (p, q, r, s) n)))
  | _ => (False, .any)
attribute [go_sem] l7Edge_pureC
theorem l7Edge_pureC_ok : ConOk Try.prog 137 l7Edge_pureC := by
  refine ⟨callable Try.func137 (by decide) rfl, fun args h => ?_⟩
  revert h
  dsimp only
  split
  · intro h
    skip
    skip
    exact ⟨l7Edge_pure _ _ _ _ _, by simp [go_sem]⟩
  · intro h
    exact h.elim
noncomputable def Γa18 : FuncId → Con := ext Γa17 137 l7Edge_pureC
attribute [go_sem] Γa18
theorem Γa18_ok : ∀ g, ConOk Try.prog g (Γa18 g) := ext_ok Γa17_ok l7Edge_pureC_ok

/-- No valid edge. -/
noncomputable def badEdge (n : Int) (e : Tr4) : Bool := !B (EdgeOk e n)
/-- The value of an edge is a number of 64 bits. -/
def AllSmall (xs : List Tr4) : Prop := ∀ i, i < xs.length → (nth xs i).2.2.1 ≤ 9223372036854775807
set_option maxHeartbeats 2000000 in

theorem edge1_pure (p : Int) (q : Int) (r : Int) (s : Int) (n : Int) (h0 : 0 ≤ n) (h1 : n ≤ 9223372036854775807) (h2 : r ≤ 9223372036854775807) : Pure Try.prog 140 [.st [.int .i64 p, .int .i64 q, .int .i64 r, .int .i64 s], .pd [.int .i64 n]] (.bool (badEdge n (p, q, r, s))) := by
  refine Pure.of_walk Try.func140 rfl (by simp [Try.f140]) (by simp [-List.drop_one, go_sem]) fun B hK => ?_
  (repeat' (first
    | refine AW_seq ?_
    | refine AW_region (id := 0) Γa18_ok [] (by kernel_rfl) ?_; simp  [-List.getD_eq_getElem?_getD, -List.drop_one, ↓splitB_true, ↓splitB_false, go_sem]; try (refine AW_data hK 2 ?_; simp [go_sem])
    | refine AW_region (id := 1) Γa18_ok [10, 18, 24, 29] (by kernel_rfl) ?_; simp  [-List.getD_eq_getElem?_getD, -List.drop_one, ↓splitB_true, ↓splitB_false, go_sem, wrap_in (x := n - 1) (by omega) (by omega)]; try (refine ⟨fun s1a => ?_, fun s1a => ?_⟩ <;> (try simp [B_iff, B_not] at s1a) <;> try (refine ⟨fun s1b => ?_, fun s1b => ?_⟩ <;> (try simp [B_iff, B_not] at s1b) <;> try (refine ⟨fun s1c => ?_, fun s1c => ?_⟩ <;> (try simp [B_iff, B_not] at s1c) <;> try (refine ⟨fun s1d => ?_, fun s1d => ?_⟩ <;> (try simp [B_iff, B_not] at s1d) <;> try (refine ⟨fun s1e => ?_, fun s1e => ?_⟩ <;> (try simp [B_iff, B_not] at s1e))))))
    | (refine AW_block ?_)
    | (refine AW_exit ?_; simp [-List.getD_eq_getElem?_getD, -List.drop_one, ↓splitB_true, ↓splitB_false, go_sem])
    | (refine AW_skip ?_; simp [-List.getD_eq_getElem?_getD, -List.drop_one, ↓splitB_true, ↓splitB_false, go_sem])
    | (refine AW_ret ?_; simp [-List.getD_eq_getElem?_getD, -List.drop_one, ↓splitB_true, ↓splitB_false, go_sem, Try.results140])
    | (intro hx; change AW _ _ _ _ _ _)
    | (refine ⟨?_, ?_⟩ <;> change AW _ _ _ _ _ _)
    | (intro hx; refine ⟨fun hs => ?_, fun hs => ?_⟩)
    | (refine ⟨fun hs => ?_, fun hs => ?_⟩)
    | (refine ⟨?_, fun hs => ?_⟩; change AW _ _ _ _ _ _)
    | (refine ⟨fun hs => ?_, ?_⟩; rotate_left; change AW _ _ _ _ _ _; rotate_left)))
  all_goals (first
    | (rw [badEdge, Bool.not_eq_true', B_not]; rintro ⟨g1, g2, g3, g4, g5, g6, g7, g8⟩; dsimp only at *; omega)
    | (rw [badEdge, Bool.not_not, Bool.eq_iff_iff, decide_eq_true_eq, B_iff, ← bits_same (by omega) h2]; exact ⟨fun h => ⟨s1a.1, by dsimp only; omega, s1b.1, by dsimp only; omega, s1c.1, s1c.2, s1d, h⟩, fun h => h.2.2.2.2.2.2.2⟩)
    | skip)
noncomputable def edge1_pureC : Con := .pure fun
  | [.st [.int .i64 p, .int .i64 q, .int .i64 r, .int .i64 s], .pd [.int .i64 n]] => ((0 ≤ n) ∧ (n ≤ 9223372036854775807) ∧ (r ≤ 9223372036854775807), .bool (badEdge n (p, q, r, s)))
  | _ => (False, .any)
attribute [go_sem] edge1_pureC
theorem edge1_pureC_ok : ConOk Try.prog 140 edge1_pureC := by
  refine ⟨callable Try.func140 (by decide) rfl, fun args h => ?_⟩
  revert h
  dsimp only
  split
  · intro h
    obtain ⟨h0, h1, h2⟩ := h
    skip
    exact ⟨edge1_pure _ _ _ _ _ h0 h1 h2, by simp [go_sem]⟩
  · intro h
    exact h.elim
noncomputable def Γa19 : FuncId → Con := ext Γa18 140 edge1_pureC
attribute [go_sem] Γa19
theorem Γa19_ok : ∀ g, ConOk Try.prog g (Γa19 g) := ext_ok Γa18_ok edge1_pureC_ok

theorem indexEdge_pure (xs : List Tr4) (n : Int) (h0 : 0 ≤ n) (h1 : n ≤ 9223372036854775807) (hS : AllSmall xs) : Pure Try.prog 170 [li cT xs, .fn 140 [.pd [.int .i64 n]]] (.int .i64 (findI (badEdge n) xs)) := by
  refine Pure.of_walk Try.func170 rfl (by simp [Try.f170]) (by simp [-List.drop_one, go_sem]) fun B hK => ?_
  (repeat' (first
    | refine AW_seq ?_
    | (refine AW_len 0 rfl fun hm => ?_); refine AW_region (id := 0) Γa19_ok [] (by kernel_rfl) ?_; simp  [-List.getD_eq_getElem?_getD, -List.drop_one, ↓splitB_true, ↓splitB_false, go_sem]
    | refine AW_region (id := 1) Γa19_ok [] (by kernel_rfl) ?_; simp  [-List.getD_eq_getElem?_getD, -List.drop_one, ↓splitB_true, ↓splitB_false, go_sem]
    | refine AW_region (id := 2) Γa19_ok [] (by kernel_rfl) ?_; simp  [-List.getD_eq_getElem?_getD, -List.drop_one, ↓splitB_true, ↓splitB_false, go_sem]
    | refine AW_region (id := 3) Γa19_ok [] (by kernel_rfl) ?_; simp  [-List.getD_eq_getElem?_getD, -List.drop_one, ↓splitB_true, ↓splitB_false, go_sem]
    | refine AW_region (id := 4) Γa19_ok [] (by kernel_rfl) ?_; simp  [-List.getD_eq_getElem?_getD, -List.drop_one, ↓splitB_true, ↓splitB_false, go_sem, c9, ne_nil c9, Nat.sub_pos_of_lt c9, h0, h1, hS k c9]
    | refine AW_region (id := 5) Γa19_ok [] (by kernel_rfl) ?_; simp  [-List.getD_eq_getElem?_getD, -List.drop_one, ↓splitB_true, ↓splitB_false, go_sem]
    | refine AW_region (id := 6) Γa19_ok [] (by kernel_rfl) ?_; simp  [-List.getD_eq_getElem?_getD, -List.drop_one, ↓splitB_true, ↓splitB_false, go_sem, wrapS (k := k) (by omega)]
    | refine AW_region (id := 7) Γa19_ok [] (by kernel_rfl) ?_; simp  [-List.getD_eq_getElem?_getD, -List.drop_one, ↓splitB_true, ↓splitB_false, go_sem]
    | refine AW_condA (c := .tmp 9) ?_; simp [-List.getD_eq_getElem?_getD, -List.drop_one, ↓splitB_true, ↓splitB_false, go_sem]; try first | (refine ⟨?_, ?_⟩ <;> change AW _ _ _ _ _ _) | (refine ⟨fun c9 => ?_, fun c9 => ?_⟩ <;> (try simp [B_iff, B_not] at c9))
    | refine AW_condA (c := .tmp 16) ?_; simp [-List.getD_eq_getElem?_getD, -List.drop_one, ↓splitB_true, ↓splitB_false, go_sem]; try first | (refine ⟨?_, ?_⟩ <;> change AW _ _ _ _ _ _) | (refine ⟨fun c16 => ?_, fun c16 => ?_⟩ <;> (try simp [B_iff, B_not] at c16))
    | (refine AW_block (id := 0) (AW_loop (ι := Nat) (fun k : Nat => ⟨(upd (upd (upd (upd (upd (fun _ => .any) 0 (li cT xs)) 1 (.fn 140 [.pd [.int .i64 n]])) 6 (li cT xs)) 7 (.int .i64 xs.length)) 8 (.int .i64 k)), fun _ => none⟩) (fun k => k ≤ xs.length ∧ NoneTill (fun i => (badEdge n) (nth xs i)) k) (fun k => xs.length - k) (0) ?_ ?_ ?_); exact ⟨Nat.zero_le _, .zero _⟩; ((repeat' (first | exact sub_noneH (by assumption) | exact sub_none | refine sub_upd ?_ ?_ | refine sub_noneE ?_)) <;> simp [-List.getD_eq_getElem?_getD, -List.drop_one, ↓splitB_true, ↓splitB_false, go_sem]); rintro k ⟨hk, ht⟩)
    | (refine ⟨k + 1, ⟨by omega, ht.succ (by simp_all)⟩, by first | omega | (simp; done) | (simp; omega), ?_⟩; ((repeat' (first | exact sub_noneH (by assumption) | exact sub_none | refine sub_upd ?_ ?_ | refine sub_noneE ?_)) <;> simp [-List.getD_eq_getElem?_getD, -List.drop_one, ↓splitB_true, ↓splitB_false, go_sem]))
    | (refine AW_block ?_)
    | (refine AW_exit ?_; simp [-List.getD_eq_getElem?_getD, -List.drop_one, ↓splitB_true, ↓splitB_false, go_sem])
    | (refine AW_skip ?_; simp [-List.getD_eq_getElem?_getD, -List.drop_one, ↓splitB_true, ↓splitB_false, go_sem])
    | (refine AW_ret ?_; simp [-List.getD_eq_getElem?_getD, -List.drop_one, ↓splitB_true, ↓splitB_false, go_sem, Try.results170])
    | (intro hx; change AW _ _ _ _ _ _)
    | (refine ⟨?_, ?_⟩ <;> change AW _ _ _ _ _ _)
    | (intro hx; refine ⟨fun hs => ?_, fun hs => ?_⟩)
    | (refine ⟨fun hs => ?_, fun hs => ?_⟩)
    | (refine ⟨?_, fun hs => ?_⟩; change AW _ _ _ _ _ _)
    | (refine ⟨fun hs => ?_, ?_⟩; rotate_left; change AW _ _ _ _ _ _; rotate_left)))
  all_goals (first
    | (rw [findI_at ht c9 (by simp_all)])
    | (rw [findI_none ht (by omega)])
    | skip)
noncomputable def indexEdge_pureC : Con := .pure fun
  | [.list n_xs c_xs, .fn 140 [.pd [.int .i64 n]]] => ((Is cT n_xs c_xs) ∧ (0 ≤ n) ∧ (n ≤ 9223372036854775807) ∧ (AllSmall (de cT c_xs)), .int .i64 (findI (badEdge n) (de cT c_xs)))
  | _ => (False, .any)
attribute [go_sem] indexEdge_pureC
theorem indexEdge_pureC_ok : ConOk Try.prog 170 indexEdge_pureC := by
  refine ⟨callable Try.func170 (by decide) rfl, fun args h => ?_⟩
  revert h
  dsimp only
  split
  · intro h
    obtain ⟨⟨xs, rfl, rfl⟩, h0, h1, hS⟩ := h
    try simp only [de_cat] at *
    exact ⟨indexEdge_pure xs _ h0 h1 hS, by simp [go_sem]⟩
  · intro h
    exact h.elim
noncomputable def Γa20 : FuncId → Con := ext Γa19 170 indexEdge_pureC
attribute [go_sem] Γa20
theorem Γa20_ok : ∀ g, ConOk Try.prog g (Γa20 g) := ext_ok Γa19_ok indexEdge_pureC_ok

theorem containsEdge_pure (xs : List Tr4) (n : Int) (h0 : 0 ≤ n) (h1 : n ≤ 9223372036854775807) (hS : AllSmall xs) : Pure Try.prog 139 [li cT xs, .fn 140 [.pd [.int .i64 n]]] (.bool (decide (0 ≤ findI (badEdge n) xs))) := by
  refine Pure.of_walk Try.func139 rfl (by simp [Try.f139]) (by simp [-List.drop_one, go_sem]) fun B hK => ?_
  (repeat' (first
    | refine AW_seq ?_
    | refine AW_region (id := 0) Γa20_ok [] (by kernel_rfl) ?_; simp  [-List.getD_eq_getElem?_getD, -List.drop_one, ↓splitB_true, ↓splitB_false, go_sem]
    | refine AW_region (id := 1) Γa20_ok [] (by kernel_rfl) ?_; simp  [-List.getD_eq_getElem?_getD, -List.drop_one, ↓splitB_true, ↓splitB_false, go_sem, h0, h1, hS]
    | (refine AW_block ?_)
    | (refine AW_exit ?_; simp [-List.getD_eq_getElem?_getD, -List.drop_one, ↓splitB_true, ↓splitB_false, go_sem])
    | (refine AW_skip ?_; simp [-List.getD_eq_getElem?_getD, -List.drop_one, ↓splitB_true, ↓splitB_false, go_sem])
    | (refine AW_ret ?_; simp [-List.getD_eq_getElem?_getD, -List.drop_one, ↓splitB_true, ↓splitB_false, go_sem, Try.results139])
    | (intro hx; change AW _ _ _ _ _ _)
    | (refine ⟨?_, ?_⟩ <;> change AW _ _ _ _ _ _)
    | (intro hx; refine ⟨fun hs => ?_, fun hs => ?_⟩)
    | (refine ⟨fun hs => ?_, fun hs => ?_⟩)
    | (refine ⟨?_, fun hs => ?_⟩; change AW _ _ _ _ _ _)
    | (refine ⟨fun hs => ?_, ?_⟩; rotate_left; change AW _ _ _ _ _ _; rotate_left)))
noncomputable def containsEdge_pureC : Con := .pure fun
  | [.list n_xs c_xs, .fn 140 [.pd [.int .i64 n]]] => ((Is cT n_xs c_xs) ∧ (0 ≤ n) ∧ (n ≤ 9223372036854775807) ∧ (AllSmall (de cT c_xs)), .bool (decide (0 ≤ findI (badEdge n) (de cT c_xs))))
  | _ => (False, .any)
attribute [go_sem] containsEdge_pureC
theorem containsEdge_pureC_ok : ConOk Try.prog 139 containsEdge_pureC := by
  refine ⟨callable Try.func139 (by decide) rfl, fun args h => ?_⟩
  revert h
  dsimp only
  split
  · intro h
    obtain ⟨⟨xs, rfl, rfl⟩, h0, h1, hS⟩ := h
    try simp only [de_cat] at *
    exact ⟨containsEdge_pure xs _ h0 h1 hS, by simp [go_sem]⟩
  · intro h
    exact h.elim
noncomputable def Γa21 : FuncId → Con := ext Γa20 139 containsEdge_pureC
attribute [go_sem] Γa21
theorem Γa21_ok : ∀ g, ConOk Try.prog g (Γa21 g) := ext_ok Γa20_ok containsEdge_pureC_ok

/-- The number ahead of the k-th, -1 ahead of the first. -/
def ahead (a : List Int) : Nat → Int
  | 0 => -1
  | k + 1 => nth a k
/-- A valid automaton. -/
def AutOk (a : List Int) (n : Nat) (c : List Tr4) : Prop := 1 ≤ n ∧ n ≤ 64 ∧ (∀ i, i < a.length → ahead a i < nth a i ∧ nth a i < n) ∧ c.length ≤ 2048 ∧ ∀ i, i < c.length → EdgeOk (nth c i) n
theorem sorted_ge {a : List Int} {k : Nat} (h : AllTill (fun i => ahead a i < nth a i) k) : ∀ i, i < k → (i : Int) ≤ nth a i
  | 0, hi => by have := h 0 hi; simp only [ahead] at this; omega
  | i + 1, hi => by
    have := h (i + 1) hi
    have := sorted_ge h i (by omega)
    simp only [ahead] at *
    omega
theorem sorted_len {a : List Int} {n : Nat} (h : ∀ i, i < a.length → ahead a i < nth a i ∧ nth a i < n) : a.length ≤ n := by
  rcases Nat.eq_zero_or_pos a.length with h0 | h0
  · omega
  · have h1 := sorted_ge (a := a) (k := a.length) (fun i hi => (h i hi).1) (a.length - 1) (by omega)
    have h2 := (h (a.length - 1) (by omega)).2
    omega
theorem ahead_bd {a : List Int} {n k : Nat} (h : AllTill (fun i => ahead a i < nth a i ∧ nth a i < n) k) : -1 ≤ ahead a k ∧ ahead a k < n := by
  cases k with
  | zero => simp only [ahead]; omega
  | succ k =>
    have := h k (by omega)
    have := sorted_ge (a := a) (k := k + 1) (fun i hi => (h i hi).1) k (by omega)
    simp only [ahead]; omega
theorem ahead_pos {a : List Int} {k : Nat} (h : 0 < k) : ahead a k = nth a (k - 1) := by
  cases k with
  | zero => omega
  | succ k => rfl
theorem find_edge {c : List Tr4} {n : Int} : (0 ≤ findI (badEdge n) c) = ¬ ∀ i, i < c.length → EdgeOk (nth c i) n := by
  rw [findI_ge, eq_iff_iff]
  constructor
  · rintro ⟨i, h, e⟩ k
    rw [badEdge, Bool.not_eq_true', B_not] at e
    exact e (k i h)
  · intro h
    apply Classical.byContradiction; intro h2
    apply h; intro i hi
    apply Classical.byContradiction; intro h3
    exact h2 ⟨i, hi, by rw [badEdge, Bool.not_eq_true', B_not]; exact h3⟩

set_option maxHeartbeats 2000000 in

theorem implAutomatonValid_pure (a : List Int) (b : List Bool) (c : List Tr4) (hS : AllSmall c) : Pure Try.prog 74 [.st [li cI a, li cB b, li cT c]] (.bool (B (AutOk a b.length c))) := by
  refine Pure.of_walk Try.func74 rfl (by simp [Try.f74]) (by simp [-List.drop_one, go_sem]) fun B hK => ?_
  (repeat' (first
    | refine AW_seq ?_
    | refine AW_region (id := 0) Γa21_ok [] (by kernel_rfl) ?_; simp  [-List.getD_eq_getElem?_getD, -List.drop_one, ↓splitB_true, ↓splitB_false, go_sem]; try (refine AW_data hK 1 ?_; simp [go_sem])
    | (refine AW_lenP 1 1 ⟨rfl, rfl⟩ fun hm => ?_; refine AW_lenP 1 0 ⟨rfl, rfl⟩ fun hma => ?_); refine AW_region (id := 1) Γa21_ok [] (by kernel_rfl) ?_; simp  [-List.getD_eq_getElem?_getD, -List.drop_one, ↓splitB_true, ↓splitB_false, go_sem]; try (refine AW_data hK 3 ?_; simp [go_sem])
    | refine AW_region (id := 2) Γa21_ok [] (by kernel_rfl) ?_; simp  [-List.getD_eq_getElem?_getD, -List.drop_one, ↓splitB_true, ↓splitB_false, go_sem]
    | refine AW_region (id := 3) Γa21_ok [] (by kernel_rfl) ?_; simp  [-List.getD_eq_getElem?_getD, -List.drop_one, ↓splitB_true, ↓splitB_false, go_sem]
    | refine AW_region (id := 4) Γa21_ok [] (by kernel_rfl) ?_; simp  [-List.getD_eq_getElem?_getD, -List.drop_one, ↓splitB_true, ↓splitB_false, go_sem]
    | refine AW_region (id := 5) Γa21_ok [] (by kernel_rfl) ?_; simp  [-List.getD_eq_getElem?_getD, -List.drop_one, ↓splitB_true, ↓splitB_false, go_sem, c14, ne_nil c14, Nat.sub_pos_of_lt c14]
    | (obtain ⟨a1, a2⟩ := ahead_bd ht); refine AW_region (id := 6) Γa21_ok [] (by kernel_rfl) ?_; simp  [-List.getD_eq_getElem?_getD, -List.drop_one, ↓splitB_true, ↓splitB_false, go_sem, wrap_in (x := ahead a k + 1) (by omega) (by omega), wrap_in (x := (b.length : Int) - 1) (by omega) (by omega)]
    | refine AW_region (id := 7) Γa21_ok [] (by kernel_rfl) ?_; simp  [-List.getD_eq_getElem?_getD, -List.drop_one, ↓splitB_true, ↓splitB_false, go_sem]
    | refine AW_region (id := 8) Γa21_ok [] (by kernel_rfl) ?_; simp  [-List.getD_eq_getElem?_getD, -List.drop_one, ↓splitB_true, ↓splitB_false, go_sem]
    | refine AW_region (id := 9) Γa21_ok [] (by kernel_rfl) ?_; simp  [-List.getD_eq_getElem?_getD, -List.drop_one, ↓splitB_true, ↓splitB_false, go_sem, wrapS (k := k) (by omega)]
    | refine AW_region (id := 10) Γa21_ok [28, 34] (by kernel_rfl) ?_; simp  [-List.getD_eq_getElem?_getD, -List.drop_one, ↓splitB_true, ↓splitB_false, go_sem, hS, (by omega : (b.length : Int) ≤ 9223372036854775807), (by omega : b.length ≤ 9223372036854775807)]; try (refine ⟨fun s10a => ?_, fun s10a => ?_⟩ <;> (try simp [B_iff, B_not] at s10a) <;> try (refine ⟨fun s10b => ?_, fun s10b => ?_⟩ <;> (try simp [B_iff, B_not] at s10b) <;> try (refine ⟨fun s10c => ?_, fun s10c => ?_⟩ <;> (try simp [B_iff, B_not] at s10c))))
    | refine AW_condA (c := .tmp 14) ?_; simp [-List.getD_eq_getElem?_getD, -List.drop_one, ↓splitB_true, ↓splitB_false, go_sem]; try first | (refine ⟨?_, ?_⟩ <;> change AW _ _ _ _ _ _) | (refine ⟨fun c14 => ?_, fun c14 => ?_⟩ <;> (try simp [B_iff, B_not] at c14))
    | refine AW_condA (c := .tmp 23) ?_; simp [-List.getD_eq_getElem?_getD, -List.drop_one, ↓splitB_true, ↓splitB_false, go_sem]; try first | (refine ⟨?_, ?_⟩ <;> change AW _ _ _ _ _ _) | (refine ⟨fun c23 => ?_, fun c23 => ?_⟩ <;> (try simp [B_iff, B_not] at c23))
    | (refine AW_block (id := 0) (AW_loop (ι := Nat) (fun k : Nat => ⟨(upd (upd (upd (upd (upd (upd (fun _ => .any) 1 (.pd [li cI a, li cB b, li cT c])) 3 (.pd [.int .i64 b.length])) 4 (.int .i64 (ahead a k))) 11 (li cI a)) 12 (.int .i64 a.length)) 13 (.int .i64 k)), fun _ => none⟩) (fun k => k ≤ a.length ∧ AllTill (fun i => ahead a i < nth a i ∧ nth a i < (b.length : Nat)) k) (fun k => a.length - k) (0) ?_ ?_ ?_); exact ⟨Nat.zero_le _, .zero _⟩; ((repeat' (first | exact sub_noneH (by assumption) | exact sub_none | refine sub_upd ?_ ?_ | refine sub_noneE ?_)) <;> simp [-List.getD_eq_getElem?_getD, -List.drop_one, ↓splitB_true, ↓splitB_false, go_sem, ahead]); rintro k ⟨hk, ht⟩)
    | (refine ⟨k + 1, ⟨by omega, ht.succ ⟨by omega, by omega⟩⟩, by first | omega | (simp; done) | (simp; omega), ?_⟩; ((repeat' (first | exact sub_noneH (by assumption) | exact sub_none | refine sub_upd ?_ ?_ | refine sub_noneE ?_)) <;> simp [-List.getD_eq_getElem?_getD, -List.drop_one, ↓splitB_true, ↓splitB_false, go_sem, ahead]))
    | (refine AW_block ?_)
    | (refine AW_exit ?_; simp [-List.getD_eq_getElem?_getD, -List.drop_one, ↓splitB_true, ↓splitB_false, go_sem])
    | (refine AW_skip ?_; simp [-List.getD_eq_getElem?_getD, -List.drop_one, ↓splitB_true, ↓splitB_false, go_sem])
    | (refine AW_ret ?_; simp [-List.getD_eq_getElem?_getD, -List.drop_one, ↓splitB_true, ↓splitB_false, go_sem, Try.results74])
    | (intro hx; change AW _ _ _ _ _ _)
    | (refine ⟨?_, ?_⟩ <;> change AW _ _ _ _ _ _)
    | (intro hx; refine ⟨fun hs => ?_, fun hs => ?_⟩)
    | (refine ⟨fun hs => ?_, fun hs => ?_⟩)
    | (refine ⟨?_, fun hs => ?_⟩; change AW _ _ _ _ _ _)
    | (refine ⟨fun hs => ?_, ?_⟩; rotate_left; change AW _ _ _ _ _ _; rotate_left)))
  all_goals (first
    | (rintro ⟨g1, g2, g3, g4, g5⟩; have := g3 k c14; omega)
    | (rintro ⟨g1, g2, g3, g4, g5⟩; omega)
    | (rw [Bool.eq_iff_iff, decide_eq_true_eq, find_edge, Bool.not_eq_true', B_not]; exact ⟨fun h k => h k.2.2.2.2, fun h k => h ⟨by omega, by omega, fun i hi => ht i (by omega), by omega, k⟩⟩)
    | skip)
noncomputable def implAutomatonValid_pureC : Con := .pure fun
  | [.st [.list n_a c_a, .list n_b c_b, .list n_c c_c]] => ((Is cI n_a c_a) ∧ (Is cB n_b c_b) ∧ (Is cT n_c c_c) ∧ (AllSmall (de cT c_c)), .bool (B (AutOk (de cI c_a) (de cB c_b).length (de cT c_c))))
  | _ => (False, .any)
attribute [go_sem] implAutomatonValid_pureC
theorem implAutomatonValid_pureC_ok : ConOk Try.prog 74 implAutomatonValid_pureC := by
  refine ⟨callable Try.func74 (by decide) rfl, fun args h => ?_⟩
  revert h
  dsimp only
  split
  · intro h
    obtain ⟨⟨a, rfl, rfl⟩, ⟨b, rfl, rfl⟩, ⟨c, rfl, rfl⟩, hS⟩ := h
    try simp only [de_cat] at *
    exact ⟨implAutomatonValid_pure a b c hS, by simp [go_sem]⟩
  · intro h
    exact h.elim
noncomputable def Γa22 : FuncId → Con := ext Γa21 74 implAutomatonValid_pureC
attribute [go_sem] Γa22
theorem Γa22_ok : ∀ g, ConOk Try.prog g (Γa22 g) := ext_ok Γa21_ok implAutomatonValid_pureC_ok

set_option maxHeartbeats 2000000 in

theorem specAutomatonValid_pure (a : List Int) (b : List Bool) (c : List Tr4) (hS : AllSmall c) : Pure Try.prog 71 [.st [li cI a, li cB b, li cT c]] (.bool (B (AutOk a b.length c))) := by
  refine Pure.of_walk Try.func71 rfl (by simp [Try.f71]) (by simp [-List.drop_one, go_sem]) fun B hK => ?_
  (repeat' (first
    | refine AW_seq ?_
    | refine AW_region (id := 0) Γa22_ok [] (by kernel_rfl) ?_; simp  [-List.getD_eq_getElem?_getD, -List.drop_one, ↓splitB_true, ↓splitB_false, go_sem]; try (refine AW_data hK 1 ?_; simp [go_sem])
    | (refine AW_lenP 1 1 ⟨rfl, rfl⟩ fun hm => ?_; refine AW_lenP 1 0 ⟨rfl, rfl⟩ fun hma => ?_); refine AW_region (id := 1) Γa22_ok [] (by kernel_rfl) ?_; simp  [-List.getD_eq_getElem?_getD, -List.drop_one, ↓splitB_true, ↓splitB_false, go_sem]
    | refine AW_region (id := 2) Γa22_ok [11, 15, 22] (by kernel_rfl) ?_; simp  [-List.getD_eq_getElem?_getD, -List.drop_one, ↓splitB_true, ↓splitB_false, go_sem]; try (refine ⟨fun s2a => ?_, fun s2a => ?_⟩ <;> (try simp [B_iff, B_not] at s2a) <;> try (refine ⟨fun s2b => ?_, fun s2b => ?_⟩ <;> (try simp [B_iff, B_not] at s2b) <;> try (refine ⟨fun s2c => ?_, fun s2c => ?_⟩ <;> (try simp [B_iff, B_not] at s2c) <;> try (refine ⟨fun s2d => ?_, fun s2d => ?_⟩ <;> (try simp [B_iff, B_not] at s2d)))))
    | refine AW_region (id := 3) Γa22_ok [] (by kernel_rfl) ?_; simp  [-List.getD_eq_getElem?_getD, -List.drop_one, ↓splitB_true, ↓splitB_false, go_sem]
    | refine AW_region (id := 4) Γa22_ok [] (by kernel_rfl) ?_; simp  [-List.getD_eq_getElem?_getD, -List.drop_one, ↓splitB_true, ↓splitB_false, go_sem]
    | refine AW_region (id := 5) Γa22_ok [] (by kernel_rfl) ?_; simp  [-List.getD_eq_getElem?_getD, -List.drop_one, ↓splitB_true, ↓splitB_false, go_sem]
    | refine AW_region_draw (id := 7) Γa22_ok mixed [41, 50, 53] [1, 4] (by kernel_rfl) (by kernel_rfl) (by simp [-List.getD_eq_getElem?_getD, -List.drop_one, ↓splitB_true, ↓splitB_false, go_sem, (show k = 0 from h0), (show 0 < a.length by omega), ne_nil c32, Nat.sub_pos_of_lt c32]) ?_; simp  [-List.getD_eq_getElem?_getD, -List.drop_one, ↓splitB_true, ↓splitB_false, go_sem, (show k = 0 from h0), (show 0 < a.length by omega), ne_nil c32, Nat.sub_pos_of_lt c32]; try (refine ⟨fun s7a => ?_, fun s7a => ?_⟩ <;> (try simp [B_iff, B_not] at s7a) <;> try (refine ⟨fun s7b => ?_, fun s7b => ?_⟩ <;> (try simp [B_iff, B_not] at s7b) <;> try (refine ⟨fun s7c => ?_, fun s7c => ?_⟩ <;> (try simp [B_iff, B_not] at s7c) <;> try (refine ⟨fun s7d => ?_, fun s7d => ?_⟩ <;> (try simp [B_iff, B_not] at s7d)))))
    | refine AW_region_draw (id := 7) Γa22_ok mixed [41, 50, 53] [1, 4] (by kernel_rfl) (by kernel_rfl) (by simp [-List.getD_eq_getElem?_getD, -List.drop_one, ↓splitB_true, ↓splitB_false, go_sem, (show 0 < k by omega), c32, ne_nil c32, Nat.sub_pos_of_lt c32, wrap_in (x := (k : Int) - 1) (by omega) (by omega), (show (k - 1) < a.length by omega), (show (0 : Int) ≤ (k : Int) - 1 by omega), (show (k : Int) - 1 < a.length by omega), (show (1 : Int) ≤ (k : Int) by omega), (show 0 < a.length - (k - 1) by omega), (show ((k : Int) - 1).toNat = k - 1 by omega)]) ?_; simp  [-List.getD_eq_getElem?_getD, -List.drop_one, ↓splitB_true, ↓splitB_false, go_sem, (show 0 < k by omega), c32, ne_nil c32, Nat.sub_pos_of_lt c32, wrap_in (x := (k : Int) - 1) (by omega) (by omega), (show (k - 1) < a.length by omega), (show (0 : Int) ≤ (k : Int) - 1 by omega), (show (k : Int) - 1 < a.length by omega), (show (1 : Int) ≤ (k : Int) by omega), (show 0 < a.length - (k - 1) by omega), (show ((k : Int) - 1).toNat = k - 1 by omega)]; try (refine ⟨fun s7a => ?_, fun s7a => ?_⟩ <;> (try simp [B_iff, B_not] at s7a) <;> try (refine ⟨fun s7b => ?_, fun s7b => ?_⟩ <;> (try simp [B_iff, B_not] at s7b) <;> try (refine ⟨fun s7c => ?_, fun s7c => ?_⟩ <;> (try simp [B_iff, B_not] at s7c) <;> try (refine ⟨fun s7d => ?_, fun s7d => ?_⟩ <;> (try simp [B_iff, B_not] at s7d)))))
    | refine AW_region (id := 8) Γa22_ok [] (by kernel_rfl) ?_; simp  [-List.getD_eq_getElem?_getD, -List.drop_one, ↓splitB_true, ↓splitB_false, go_sem]
    | refine AW_region (id := 6) Γa22_ok [] (by kernel_rfl) ?_; simp  [-List.getD_eq_getElem?_getD, -List.drop_one, ↓splitB_true, ↓splitB_false, go_sem, wrapS (k := k) (by omega), (by decide : IntKind.i64.wrap 1 = 1)]
    | refine AW_region (id := 9) Γa22_ok [] (by kernel_rfl) ?_; simp  [-List.getD_eq_getElem?_getD, -List.drop_one, ↓splitB_true, ↓splitB_false, go_sem]
    | refine AW_region (id := 10) Γa22_ok [] (by kernel_rfl) ?_; simp  [-List.getD_eq_getElem?_getD, -List.drop_one, ↓splitB_true, ↓splitB_false, go_sem]
    | refine AW_region (id := 12) Γa22_ok [] (by kernel_rfl) ?_; simp  [-List.getD_eq_getElem?_getD, -List.drop_one, ↓splitB_true, ↓splitB_false, go_sem, c72, ne_nil c72, Nat.sub_pos_of_lt c72]
    | refine AW_region (id := 13) Γa22_ok [] (by kernel_rfl) ?_; simp  [-List.getD_eq_getElem?_getD, -List.drop_one, ↓splitB_true, ↓splitB_false, go_sem]
    | refine AW_region (id := 11) Γa22_ok [] (by kernel_rfl) ?_; simp  [-List.getD_eq_getElem?_getD, -List.drop_one, ↓splitB_true, ↓splitB_false, go_sem, wrapS (k := i) (by omega)]
    | refine AW_region (id := 14) Γa22_ok [] (by kernel_rfl) ?_; simp  [-List.getD_eq_getElem?_getD, -List.drop_one, ↓splitB_true, ↓splitB_false, go_sem]
    | refine AW_condA (c := .tmp 27) ?_; simp [-List.getD_eq_getElem?_getD, -List.drop_one, ↓splitB_true, ↓splitB_false, go_sem]; try first | (refine ⟨?_, ?_⟩ <;> change AW _ _ _ _ _ _) | (refine ⟨fun c27 => ?_, fun c27 => ?_⟩ <;> (try simp [B_iff, B_not] at c27))
    | refine AW_condA (c := .tmp 32) ?_; simp [-List.getD_eq_getElem?_getD, -List.drop_one, ↓splitB_true, ↓splitB_false, go_sem]; try first | (refine ⟨?_, ?_⟩ <;> change AW _ _ _ _ _ _) | (refine ⟨fun c32 => ?_, fun c32 => ?_⟩ <;> (try simp [B_iff, B_not] at c32))
    | refine AW_condA (c := .tmp 67) ?_; simp [-List.getD_eq_getElem?_getD, -List.drop_one, ↓splitB_true, ↓splitB_false, go_sem]; try first | (refine ⟨?_, ?_⟩ <;> change AW _ _ _ _ _ _) | (refine ⟨fun c67 => ?_, fun c67 => ?_⟩ <;> (try simp [B_iff, B_not] at c67))
    | refine AW_condA (c := .tmp 72) ?_; simp [-List.getD_eq_getElem?_getD, -List.drop_one, ↓splitB_true, ↓splitB_false, go_sem]; try first | (refine ⟨?_, ?_⟩ <;> change AW _ _ _ _ _ _) | (refine ⟨fun c72 => ?_, fun c72 => ?_⟩ <;> (try simp [B_iff, B_not] at c72))
    | refine AW_condA (c := .tmp 82) ?_; simp [-List.getD_eq_getElem?_getD, -List.drop_one, ↓splitB_true, ↓splitB_false, go_sem]; try first | (refine ⟨?_, ?_⟩ <;> change AW _ _ _ _ _ _) | (refine ⟨fun c82 => ?_, fun c82 => ?_⟩ <;> (try simp [B_iff, B_not] at c82))
    | (refine AW_block (id := 0) (AW_loop (ι := Nat) (fun k : Nat => ⟨(upd (upd (upd (fun _ => .any) 1 (.pd [li cI a, li cB b, li cT c])) 3 (.int .i64 b.length)) 4 (.int .i64 k)), fun _ => none⟩) (fun k => k ≤ a.length ∧ AllTill (fun i => ahead a i < nth a i ∧ nth a i < (b.length : Nat)) k) (fun k => a.length - k) (0) ?_ ?_ ?_); exact ⟨Nat.zero_le _, .zero _⟩; ((repeat' (first | exact sub_noneH (by assumption) | exact sub_none | refine sub_upd ?_ ?_ | refine sub_noneE ?_)) <;> simp [-List.getD_eq_getElem?_getD, -List.drop_one, ↓splitB_true, ↓splitB_false, go_sem]); rintro k ⟨hk, ht⟩; obtain ⟨k0, h0⟩ | ⟨j, h0⟩ : (∃ z : Nat, k = 0) ∨ ∃ j, k = j + 1 := (by rcases k with _ | j; exact .inl ⟨0, rfl⟩; exact .inr ⟨j, rfl⟩))
    | (refine ⟨k + 1, ⟨by omega, ht.succ (by first | (subst h0; simp only [ahead]; omega) | (show ahead a k < nth a k ∧ nth a k < ((b.length : Nat) : Int); rw [ahead_pos (by omega)]; omega))⟩, by first | omega | (simp; done) | (simp; omega), ?_⟩; ((repeat' (first | exact sub_noneH (by assumption) | exact sub_none | refine sub_upd ?_ ?_ | refine sub_noneE ?_)) <;> simp [-List.getD_eq_getElem?_getD, -List.drop_one, ↓splitB_true, ↓splitB_false, go_sem, h0]))
    | (refine AW_block (id := 2) (AW_loop (ι := Nat) (fun i : Nat => ⟨(upd (upd (upd (fun _ => .any) 1 (.pd [li cI a, li cB b, li cT c])) 3 (.int .i64 b.length)) 5 (.int .i64 i)), fun _ => none⟩) (fun i => i ≤ c.length ∧ AllTill (fun j => EdgeOk (nth c j) (b.length : Nat)) i) (fun i => c.length - i) (0) ?_ ?_ ?_); exact ⟨Nat.zero_le _, .zero _⟩; ((repeat' (first | exact sub_noneH (by assumption) | exact sub_none | refine sub_upd ?_ ?_ | refine sub_noneE ?_)) <;> simp [-List.getD_eq_getElem?_getD, -List.drop_one, ↓splitB_true, ↓splitB_false, go_sem]); rintro i ⟨hi, hu⟩)
    | (refine ⟨i + 1, ⟨by omega, hu.succ c82⟩, by first | omega | (simp; done) | (simp; omega), ?_⟩; ((repeat' (first | exact sub_noneH (by assumption) | exact sub_none | refine sub_upd ?_ ?_ | refine sub_noneE ?_)) <;> simp [-List.getD_eq_getElem?_getD, -List.drop_one, ↓splitB_true, ↓splitB_false, go_sem]))
    | (refine AW_block ?_)
    | (refine AW_exit ?_; simp [-List.getD_eq_getElem?_getD, -List.drop_one, ↓splitB_true, ↓splitB_false, go_sem])
    | (refine AW_skip ?_; simp [-List.getD_eq_getElem?_getD, -List.drop_one, ↓splitB_true, ↓splitB_false, go_sem])
    | (refine AW_ret ?_; simp [-List.getD_eq_getElem?_getD, -List.drop_one, ↓splitB_true, ↓splitB_false, go_sem, Try.results71])
    | (intro hx; change AW _ _ _ _ _ _)
    | (refine ⟨?_, ?_⟩ <;> change AW _ _ _ _ _ _)
    | (intro hx; refine ⟨fun hs => ?_, fun hs => ?_⟩)
    | (refine ⟨fun hs => ?_, fun hs => ?_⟩)
    | (refine ⟨?_, fun hs => ?_⟩; change AW _ _ _ _ _ _)
    | (refine ⟨fun hs => ?_, ?_⟩; rotate_left; change AW _ _ _ _ _ _; rotate_left)))
  all_goals (first
    | (rintro ⟨g1, g2, g3, g4, g5⟩; have q := g3 k c32; subst h0; simp only [ahead] at q; omega)
    | (rintro ⟨g1, g2, g3, g4, g5⟩; have q := g3 k c32; rw [ahead_pos (by omega)] at q; have q2 := sorted_ge (a := a) (k := k + 1) (fun i hi => (g3 i (by omega)).1) k (by omega); omega)
    | (rintro ⟨g1, g2, g3, g4, g5⟩; omega)
    | (intro h; have := sorted_len h.2.2.1; omega)
    | (rintro ⟨g1, g2, g3, g4, g5⟩; exact c82 (g5 i c72))
    | exact ⟨by omega, by omega, fun j hj => ht j (by omega), by omega, fun j hj => hu j (by omega)⟩
    | skip)
  all_goals trace_state
noncomputable def specAutomatonValid_pureC : Con := .pure fun
  | [.st [.list n_a c_a, .list n_b c_b, .list n_c c_c]] => ((Is cI n_a c_a) ∧ (Is cB n_b c_b) ∧ (Is cT n_c c_c) ∧ (AllSmall (de cT c_c)), .bool (B (AutOk (de cI c_a) (de cB c_b).length (de cT c_c))))
  | _ => (False, .any)
attribute [go_sem] specAutomatonValid_pureC
theorem specAutomatonValid_pureC_ok : ConOk Try.prog 71 specAutomatonValid_pureC := by
  refine ⟨callable Try.func71 (by decide) rfl, fun args h => ?_⟩
  revert h
  dsimp only
  split
  · intro h
    obtain ⟨⟨a, rfl, rfl⟩, ⟨b, rfl, rfl⟩, ⟨c, rfl, rfl⟩, hS⟩ := h
    try simp only [de_cat] at *
    exact ⟨specAutomatonValid_pure a b c hS, by simp [go_sem]⟩
  · intro h
    exact h.elim
noncomputable def Γa23 : FuncId → Con := ext Γa22 71 specAutomatonValid_pureC
attribute [go_sem] Γa23
theorem Γa23_ok : ∀ g, ConOk Try.prog g (Γa23 g) := ext_ok Γa22_ok specAutomatonValid_pureC_ok

end Go.Proofs.Ytoklpofekcclhaa.Vm

