/-
  Pairs of lists, lists of them, lists of lists, graphs: the walks of the law's own kit. No conditions.
-/
import Derived.Test.YtljncoikoffijaaF1
namespace Go.Proofs.Ytljncoikoffijaa.Vm
open Go
set_option linter.unusedVariables false
set_option linter.unusedSimpArgs false
set_option maxRecDepth 200000

theorem szState_pure (a : List Int) (b : List Int) (left : Int) (h0 : -1 ≤ left) (h1 : left ≤ 1048576) : Pure Try.prog 138 [.st [li cI a, li cI b], .int .i64 left] (.int .i64 (szOf left (a.length + b.length))) := by
  refine Pure.of_walk Try.func138 rfl (by simp [Try.f138]) (by simp [-List.drop_one, go_sem]) fun B hK => ?_
  (repeat' (first
    | refine AW_seq ?_
    | refine AW_region (id := 0) Γ3_ok [] (by kernel_rfl) ?_; simp  [-List.getD_eq_getElem?_getD, -List.drop_one, ↓splitB_true, ↓splitB_false, go_sem]; try (refine AW_data hK 2 ?_; simp [go_sem])
    | refine AW_region (id := 1) Γ3_ok [] (by kernel_rfl) ?_; simp  [-List.getD_eq_getElem?_getD, -List.drop_one, ↓splitB_true, ↓splitB_false, go_sem, h0, h1]
    | refine AW_region (id := 2) Γ3_ok [] (by kernel_rfl) ?_; simp  [-List.getD_eq_getElem?_getD, -List.drop_one, ↓splitB_true, ↓splitB_false, go_sem]
    | refine AW_region (id := 3) Γ3_ok [] (by kernel_rfl) ?_; simp  [-List.getD_eq_getElem?_getD, -List.drop_one, ↓splitB_true, ↓splitB_false, go_sem]
    | refine AW_region (id := 4) Γ3_ok [] (by kernel_rfl) ?_; simp  [-List.getD_eq_getElem?_getD, -List.drop_one, ↓splitB_true, ↓splitB_false, go_sem, szOf_lo h0, szOf_hi h1]
    | refine AW_region (id := 5) Γ3_ok [] (by kernel_rfl) ?_; simp  [-List.getD_eq_getElem?_getD, -List.drop_one, ↓splitB_true, ↓splitB_false, go_sem]
    | refine AW_region (id := 6) Γ3_ok [] (by kernel_rfl) ?_; simp  [-List.getD_eq_getElem?_getD, -List.drop_one, ↓splitB_true, ↓splitB_false, go_sem]
    | refine AW_region (id := 7) Γ3_ok [] (by kernel_rfl) ?_; simp  [-List.getD_eq_getElem?_getD, -List.drop_one, ↓splitB_true, ↓splitB_false, go_sem, szOf_szOf h0]
    | refine AW_condA (c := .tmp 10) ?_; simp [-List.getD_eq_getElem?_getD, -List.drop_one, ↓splitB_true, ↓splitB_false, go_sem]; try first | (refine ⟨?_, ?_⟩ <;> change AW _ _ _ _ _ _) | (refine ⟨fun c10 => ?_, fun c10 => ?_⟩ <;> (try simp [B_iff, B_not] at c10))
    | refine AW_condA (c := .tmp 16) ?_; simp [-List.getD_eq_getElem?_getD, -List.drop_one, ↓splitB_true, ↓splitB_false, go_sem]; try first | (refine ⟨?_, ?_⟩ <;> change AW _ _ _ _ _ _) | (refine ⟨fun c16 => ?_, fun c16 => ?_⟩ <;> (try simp [B_iff, B_not] at c16))
    | (refine AW_block ?_)
    | (refine AW_exit ?_; simp [-List.getD_eq_getElem?_getD, -List.drop_one, ↓splitB_true, ↓splitB_false, go_sem])
    | (refine AW_skip ?_; simp [-List.getD_eq_getElem?_getD, -List.drop_one, ↓splitB_true, ↓splitB_false, go_sem])
    | (refine AW_ret ?_; simp [-List.getD_eq_getElem?_getD, -List.drop_one, ↓splitB_true, ↓splitB_false, go_sem, Try.results138])
    | (intro hx; change AW _ _ _ _ _ _)
    | (refine ⟨?_, ?_⟩ <;> change AW _ _ _ _ _ _)
    | (intro hx; refine ⟨fun hs => ?_, fun hs => ?_⟩)
    | (refine ⟨fun hs => ?_, fun hs => ?_⟩)
    | (refine ⟨?_, fun hs => ?_⟩; change AW _ _ _ _ _ _)
    | (refine ⟨fun hs => ?_, ?_⟩; rotate_left; change AW _ _ _ _ _ _; rotate_left)))
  all_goals (first
    | exact (szOf_neg (by assumption) h0 (by omega)).symm
    | (rw [szOf_szOf h0] at *; exact (szOf_neg (by assumption) h0 (by omega)).symm)
    | (rw [szOf_szOf h0])
    | skip)
noncomputable def szState_pureC : Con := .pure fun
  | [.st [.list n_a c_a, .list n_b c_b], .int .i64 left] => ((Is cI n_a c_a) ∧ (Is cI n_b c_b) ∧ (-1 ≤ left) ∧ (left ≤ 1048576), .int .i64 (szOf left ((de cI c_a).length + (de cI c_b).length)))
  | _ => (False, .any)
attribute [go_sem] szState_pureC
theorem szState_pureC_ok : ConOk Try.prog 138 szState_pureC := by
  refine ⟨callable Try.func138 (by decide) rfl, fun args h => ?_⟩
  revert h
  dsimp only
  split
  · intro h
    obtain ⟨⟨a, rfl, rfl⟩, ⟨b, rfl, rfl⟩, h0, h1⟩ := h
    try simp only [de_cat] at *
    exact ⟨szState_pure a b _ h0 h1, by simp [go_sem]⟩
  · intro h
    exact h.elim
noncomputable def Γ4 : FuncId → Con := ext Γ3 138 szState_pureC
attribute [go_sem] Γ4
theorem Γ4_ok : ∀ g, ConOk Try.prog g (Γ4 g) := ext_ok Γ3_ok szState_pureC_ok

theorem toState_pure (a : List Int) (b : List Int) (h0 : a.length ≤ 1048576) (h1 : b.length ≤ 1048576) : Pure Try.prog 139 [.st [li cI a, li cI b]] (.st [fr 1 cI a, fr 1 cI b]) := by
  refine Pure.of_walk Try.func139 rfl (by simp [Try.f139]) (by simp [-List.drop_one, go_sem]) fun B hK => ?_
  (repeat' (first
    | refine AW_seq ?_
    | refine AW_region (id := 0) Γ4_ok [] (by kernel_rfl) ?_; simp  [-List.getD_eq_getElem?_getD, -List.drop_one, ↓splitB_true, ↓splitB_false, go_sem]; try (refine AW_data hK 1 ?_; simp [go_sem])
    | refine AW_region (id := 1) Γ4_ok [] (by kernel_rfl) ?_; simp  [-List.getD_eq_getElem?_getD, -List.drop_one, ↓splitB_true, ↓splitB_false, go_sem]; try (refine AW_matBox 3 rfl fun b3 hb3 => ?_)
    | refine AW_region (id := 2) Γ4_ok [] (by kernel_rfl) ?_; simp  [-List.getD_eq_getElem?_getD, -List.drop_one, ↓splitB_true, ↓splitB_false, go_sem, h0, h1]
    | refine AW_region (id := 3) Γ4_ok [] (by kernel_rfl) ?_; simp  [-List.getD_eq_getElem?_getD, -List.drop_one, ↓splitB_true, ↓splitB_false, go_sem, h0, h1]
    | refine AW_region (id := 4) Γ4_ok [] (by kernel_rfl) ?_; simp  [-List.getD_eq_getElem?_getD, -List.drop_one, ↓splitB_true, ↓splitB_false, go_sem]
    | (refine AW_block ?_)
    | (refine AW_exit ?_; simp [-List.getD_eq_getElem?_getD, -List.drop_one, ↓splitB_true, ↓splitB_false, go_sem])
    | (refine AW_skip ?_; simp [-List.getD_eq_getElem?_getD, -List.drop_one, ↓splitB_true, ↓splitB_false, go_sem])
    | (refine AW_ret ?_; simp [-List.getD_eq_getElem?_getD, -List.drop_one, ↓splitB_true, ↓splitB_false, go_sem, Try.results139])
    | (intro hx; change AW _ _ _ _ _ _)
    | (refine ⟨?_, ?_⟩ <;> change AW _ _ _ _ _ _)
    | (intro hx; refine ⟨fun hs => ?_, fun hs => ?_⟩)
    | (refine ⟨fun hs => ?_, fun hs => ?_⟩)
    | (refine ⟨?_, fun hs => ?_⟩; change AW _ _ _ _ _ _)
    | (refine ⟨fun hs => ?_, ?_⟩; rotate_left; change AW _ _ _ _ _ _; rotate_left)))
noncomputable def toState_pureC : Con := .pure fun
  | [.st [.list n_a c_a, .list n_b c_b]] => ((Is cI n_a c_a) ∧ (Is cI n_b c_b) ∧ ((de cI c_a).length ≤ 1048576) ∧ ((de cI c_b).length ≤ 1048576), .st [fr 1 cI (de cI c_a), fr 1 cI (de cI c_b)])
  | _ => (False, .any)
attribute [go_sem] toState_pureC
theorem toState_pureC_ok : ConOk Try.prog 139 toState_pureC := by
  refine ⟨callable Try.func139 (by decide) rfl, fun args h => ?_⟩
  revert h
  dsimp only
  split
  · intro h
    obtain ⟨⟨a, rfl, rfl⟩, ⟨b, rfl, rfl⟩, h0, h1⟩ := h
    try simp only [de_cat] at *
    exact ⟨toState_pure a b h0 h1, by simp [go_sem]⟩
  · intro h
    exact h.elim
noncomputable def Γ5 : FuncId → Con := ext Γ4 139 toState_pureC
attribute [go_sem] Γ5
theorem Γ5_ok : ∀ g, ConOk Try.prog g (Γ5 g) := ext_ok Γ4_ok toState_pureC_ok

theorem eqState_pure (a : List Int) (b : List Int) (c : List Int) (d : List Int)  : Pure Try.prog 140 [.st [li cI a, li cI b], .st [li cI c, li cI d]] (.bool (decide (a = c) && decide (b = d))) := by
  refine Pure.of_walk Try.func140 rfl (by simp [Try.f140]) (by simp [-List.drop_one, go_sem]) fun B hK => ?_
  (repeat' (first
    | refine AW_seq ?_
    | refine AW_region (id := 0) Γ5_ok [] (by kernel_rfl) ?_; simp  [-List.getD_eq_getElem?_getD, -List.drop_one, ↓splitB_true, ↓splitB_false, go_sem]; try (refine AW_data hK 2 ?_; simp [go_sem]; refine AW_data hK 3 ?_; simp [go_sem])
    | refine AW_region (id := 1) Γ5_ok [] (by kernel_rfl) ?_; simp  [-List.getD_eq_getElem?_getD, -List.drop_one, ↓splitB_true, ↓splitB_false, go_sem]
    | refine AW_region (id := 2) Γ5_ok [] (by kernel_rfl) ?_; simp  [-List.getD_eq_getElem?_getD, -List.drop_one, ↓splitB_true, ↓splitB_false, go_sem]
    | refine AW_region (id := 3) Γ5_ok [] (by kernel_rfl) ?_; simp  [-List.getD_eq_getElem?_getD, -List.drop_one, ↓splitB_true, ↓splitB_false, go_sem]
    | refine AW_region (id := 4) Γ5_ok [] (by kernel_rfl) ?_; simp  [-List.getD_eq_getElem?_getD, -List.drop_one, ↓splitB_true, ↓splitB_false, go_sem]
    | refine AW_region (id := 5) Γ5_ok [] (by kernel_rfl) ?_; simp  [-List.getD_eq_getElem?_getD, -List.drop_one, ↓splitB_true, ↓splitB_false, go_sem]
    | refine AW_condA (c := .tmp 10) ?_; simp [-List.getD_eq_getElem?_getD, -List.drop_one, ↓splitB_true, ↓splitB_false, go_sem]; try first | (refine ⟨?_, ?_⟩ <;> change AW _ _ _ _ _ _) | (refine ⟨fun c10 => ?_, fun c10 => ?_⟩ <;> (try simp [B_iff, B_not] at c10))
    | refine AW_condA (c := .tmp 16) ?_; simp [-List.getD_eq_getElem?_getD, -List.drop_one, ↓splitB_true, ↓splitB_false, go_sem]; try first | (refine ⟨?_, ?_⟩ <;> change AW _ _ _ _ _ _) | (refine ⟨fun c16 => ?_, fun c16 => ?_⟩ <;> (try simp [B_iff, B_not] at c16))
    | (refine AW_block ?_)
    | (refine AW_exit ?_; simp [-List.getD_eq_getElem?_getD, -List.drop_one, ↓splitB_true, ↓splitB_false, go_sem])
    | (refine AW_skip ?_; simp [-List.getD_eq_getElem?_getD, -List.drop_one, ↓splitB_true, ↓splitB_false, go_sem])
    | (refine AW_ret ?_; simp [-List.getD_eq_getElem?_getD, -List.drop_one, ↓splitB_true, ↓splitB_false, go_sem, Try.results140])
    | (intro hx; change AW _ _ _ _ _ _)
    | (refine ⟨?_, ?_⟩ <;> change AW _ _ _ _ _ _)
    | (intro hx; refine ⟨fun hs => ?_, fun hs => ?_⟩)
    | (refine ⟨fun hs => ?_, fun hs => ?_⟩)
    | (refine ⟨?_, fun hs => ?_⟩; change AW _ _ _ _ _ _)
    | (refine ⟨fun hs => ?_, ?_⟩; rotate_left; change AW _ _ _ _ _ _; rotate_left)))
  all_goals (first
    | (simp_all; done)
    | (intros; simp_all; done)
    | skip)
noncomputable def eqState_pureC : Con := .pure fun
  | [.st [.list n_a c_a, .list n_b c_b], .st [.list n_c c_c, .list n_d c_d]] => ((Is cI n_a c_a) ∧ (Is cI n_b c_b) ∧ (Is cI n_c c_c) ∧ (Is cI n_d c_d), .bool (decide ((de cI c_a) = (de cI c_c)) && decide ((de cI c_b) = (de cI c_d))))
  | _ => (False, .any)
attribute [go_sem] eqState_pureC
theorem eqState_pureC_ok : ConOk Try.prog 140 eqState_pureC := by
  refine ⟨callable Try.func140 (by decide) rfl, fun args h => ?_⟩
  revert h
  dsimp only
  split
  · intro h
    obtain ⟨⟨a, rfl, rfl⟩, ⟨b, rfl, rfl⟩, ⟨c, rfl, rfl⟩, ⟨d, rfl, rfl⟩⟩ := h
    try simp only [de_cat] at *
    exact ⟨eqState_pure a b c d, by simp [go_sem]⟩
  · intro h
    exact h.elim
noncomputable def Γ6 : FuncId → Con := ext Γ5 140 eqState_pureC
attribute [go_sem] Γ6
theorem Γ6_ok : ∀ g, ConOk Try.prog g (Γ6 g) := ext_ok Γ5_ok eqState_pureC_ok

theorem szStateS_pure (xs : List Ints2) (left : Int) (h0 : -1 ≤ left) (h1 : left ≤ 1048576) : Pure Try.prog 94 [li cP xs, .int .i64 left] (.int .i64 (szOf left (xs.length + msum mP xs xs.length))) := by
  refine Pure.of_walk Try.func94 rfl (by simp [Try.f94]) (by simp [-List.drop_one, go_sem]) fun B hK => ?_
  (repeat' (first
    | refine AW_seq ?_
    | (refine AW_len 0 rfl fun hm => ?_); refine AW_region (id := 0) Γ6_ok [] (by kernel_rfl) ?_; simp  [-List.getD_eq_getElem?_getD, -List.drop_one, ↓splitB_true, ↓splitB_false, go_sem]
    | refine AW_region (id := 1) Γ6_ok [] (by kernel_rfl) ?_; simp  [-List.getD_eq_getElem?_getD, -List.drop_one, ↓splitB_true, ↓splitB_false, go_sem, wrap_sub h0 h1 hm]
    | refine AW_region (id := 2) Γ6_ok [] (by kernel_rfl) ?_; simp  [-List.getD_eq_getElem?_getD, -List.drop_one, ↓splitB_true, ↓splitB_false, go_sem]
    | refine AW_region (id := 3) Γ6_ok [] (by kernel_rfl) ?_; simp  [-List.getD_eq_getElem?_getD, -List.drop_one, ↓splitB_true, ↓splitB_false, go_sem]
    | refine AW_region (id := 4) Γ6_ok [] (by kernel_rfl) ?_; simp  [-List.getD_eq_getElem?_getD, -List.drop_one, ↓splitB_true, ↓splitB_false, go_sem]
    | refine AW_region (id := 5) Γ6_ok [] (by kernel_rfl) ?_; simp  [-List.getD_eq_getElem?_getD, -List.drop_one, ↓splitB_true, ↓splitB_false, go_sem, wrapS (k := k) (by omega)]
    | refine AW_region (id := 7) Γ6_ok [] (by kernel_rfl) ?_; simp  [-List.getD_eq_getElem?_getD, -List.drop_one, ↓splitB_true, ↓splitB_false, go_sem, c15, ne_nil c15, Nat.sub_pos_of_lt c15, szOf_lo h0, szOf_hi h1]
    | refine AW_region (id := 8) Γ6_ok [] (by kernel_rfl) ?_; simp  [-List.getD_eq_getElem?_getD, -List.drop_one, ↓splitB_true, ↓splitB_false, go_sem]
    | refine AW_region (id := 9) Γ6_ok [] (by kernel_rfl) ?_; simp  [-List.getD_eq_getElem?_getD, -List.drop_one, ↓splitB_true, ↓splitB_false, go_sem]
    | refine AW_region (id := 6) Γ6_ok [] (by kernel_rfl) ?_; simp  [-List.getD_eq_getElem?_getD, -List.drop_one, ↓splitB_true, ↓splitB_false, go_sem, wrapS (k := k) (by omega)]
    | refine AW_region (id := 10) Γ6_ok [] (by kernel_rfl) ?_; simp  [-List.getD_eq_getElem?_getD, -List.drop_one, ↓splitB_true, ↓splitB_false, go_sem]
    | refine AW_condA (c := .tmp 11) ?_; simp [-List.getD_eq_getElem?_getD, -List.drop_one, ↓splitB_true, ↓splitB_false, go_sem]; try first | (refine ⟨?_, ?_⟩ <;> change AW _ _ _ _ _ _) | (refine ⟨fun c11 => ?_, fun c11 => ?_⟩ <;> (try simp [B_iff, B_not] at c11))
    | refine AW_condA (c := .tmp 15) ?_; simp [-List.getD_eq_getElem?_getD, -List.drop_one, ↓splitB_true, ↓splitB_false, go_sem]; try first | (refine ⟨?_, ?_⟩ <;> change AW _ _ _ _ _ _) | (refine ⟨fun c15 => ?_, fun c15 => ?_⟩ <;> (try simp [B_iff, B_not] at c15))
    | refine AW_condA (c := .tmp 25) ?_; simp [-List.getD_eq_getElem?_getD, -List.drop_one, ↓splitB_true, ↓splitB_false, go_sem]; try first | (refine ⟨?_, ?_⟩ <;> change AW _ _ _ _ _ _) | (refine ⟨fun c25 => ?_, fun c25 => ?_⟩ <;> (try simp [B_iff, B_not] at c25))
    | (refine AW_block (id := 0) (AW_loop (ι := Nat) (fun k : Nat => ⟨(upd (upd (upd (fun _ => .any) 0 (li cP xs)) 1 (.int .i64 (szOf left (xs.length + msum mP xs k)))) 5 (.int .i64 k)), fun _ => none⟩) (fun k => k ≤ xs.length) (fun k => xs.length - k) (0) ?_ ?_ ?_); exact Nat.zero_le _; ((repeat' (first | exact sub_noneH (by assumption) | exact sub_none | refine sub_upd ?_ ?_ | refine sub_noneE ?_)) <;> simp [-List.getD_eq_getElem?_getD, -List.drop_one, ↓splitB_true, ↓splitB_false, go_sem, szOf_yes c11]); rintro k hk)
    | (refine ⟨k + 1, by omega, by first | omega | (simp; done) | (simp; omega), ?_⟩; ((repeat' (first | exact sub_noneH (by assumption) | exact sub_none | refine sub_upd ?_ ?_ | refine sub_noneE ?_)) <;> simp [-List.getD_eq_getElem?_getD, -List.drop_one, ↓splitB_true, ↓splitB_false, go_sem, szOf_szOf h0, msum_succ c15, mP, Nat.add_assoc]))
    | (refine AW_block ?_)
    | (refine AW_exit ?_; simp [-List.getD_eq_getElem?_getD, -List.drop_one, ↓splitB_true, ↓splitB_false, go_sem])
    | (refine AW_skip ?_; simp [-List.getD_eq_getElem?_getD, -List.drop_one, ↓splitB_true, ↓splitB_false, go_sem])
    | (refine AW_ret ?_; simp [-List.getD_eq_getElem?_getD, -List.drop_one, ↓splitB_true, ↓splitB_false, go_sem, Try.results94])
    | (intro hx; change AW _ _ _ _ _ _)
    | (refine ⟨?_, ?_⟩ <;> change AW _ _ _ _ _ _)
    | (intro hx; refine ⟨fun hs => ?_, fun hs => ?_⟩)
    | (refine ⟨fun hs => ?_, fun hs => ?_⟩)
    | (refine ⟨?_, fun hs => ?_⟩; change AW _ _ _ _ _ _)
    | (refine ⟨fun hs => ?_, ?_⟩; rotate_left; change AW _ _ _ _ _ _; rotate_left)))
  all_goals (first
    | rw [szOf_no (by omega)]
    | (rw [szOf_szOf h0, Nat.add_assoc] at *; have hms := msum_succ (m := mP) c15; have hmm := msum_mono (m := mP) (xs := xs) (show k + 1 ≤ xs.length from c15); simp only [mP] at hms; exact (szOf_neg (by assumption) h0 (by omega)).symm)
    | (rw [msum_ge (by omega)])
    | skip)
noncomputable def szStateS_pureC : Con := .pure fun
  | [.list n_xs c_xs, .int .i64 left] => ((Is cP n_xs c_xs) ∧ (-1 ≤ left) ∧ (left ≤ 1048576), .int .i64 (szOf left ((de cP c_xs).length + msum mP (de cP c_xs) (de cP c_xs).length)))
  | _ => (False, .any)
attribute [go_sem] szStateS_pureC
theorem szStateS_pureC_ok : ConOk Try.prog 94 szStateS_pureC := by
  refine ⟨callable Try.func94 (by decide) rfl, fun args h => ?_⟩
  revert h
  dsimp only
  split
  · intro h
    obtain ⟨⟨xs, rfl, rfl⟩, h0, h1⟩ := h
    try simp only [de_cat] at *
    exact ⟨szStateS_pure xs _ h0 h1, by simp [go_sem]⟩
  · intro h
    exact h.elim
noncomputable def Γ7 : FuncId → Con := ext Γ6 94 szStateS_pureC
attribute [go_sem] Γ7
theorem Γ7_ok : ∀ g, ConOk Try.prog g (Γ7 g) := ext_ok Γ6_ok szStateS_pureC_ok

theorem toStateS_pure (xs : List Ints2) (h0 : xs.length + msum mP xs xs.length ≤ 1048576) : Pure Try.prog 98 [li cP xs] (fr 2 oP xs) := by
  refine Pure.of_walk Try.func98 rfl (by simp [Try.f98]) (by simp [-List.drop_one, go_sem]) fun B hK => ?_
  (repeat' (first
    | refine AW_seq ?_
    | refine AW_region (id := 0) Γ7_ok [] (by kernel_rfl) ?_; simp  [-List.getD_eq_getElem?_getD, -List.drop_one, ↓splitB_true, ↓splitB_false, go_sem]
    | refine AW_region (id := 1) Γ7_ok [] (by kernel_rfl) ?_; simp  [-List.getD_eq_getElem?_getD, -List.drop_one, ↓splitB_true, ↓splitB_false, go_sem, (by omega : 48 * (xs.length : Int) ≤ 281474976710656), (by omega : 24 * (xs.length : Int) ≤ 281474976710656), (by omega : 64 * (xs.length : Int) ≤ 281474976710656), (by omega : (xs.length : Int) ≤ 9223372036854775807)]; try ((refine AW_mat 3 rfl fun b cp j _ hcp hj => ?_))
    | refine AW_region (id := 2) Γ7_ok [] (by kernel_rfl) ?_; simp  [-List.getD_eq_getElem?_getD, -List.drop_one, ↓splitB_true, ↓splitB_false, go_sem]
    | refine AW_region (id := 3) Γ7_ok [] (by kernel_rfl) ?_; simp  [-List.getD_eq_getElem?_getD, -List.drop_one, ↓splitB_true, ↓splitB_false, go_sem]
    | (have hms := msum_at (m := mP) c11; simp only [mP] at hms); refine AW_region (id := 5) Γ7_ok [] (by kernel_rfl) ?_; simp  [-List.getD_eq_getElem?_getD, -List.drop_one, ↓splitB_true, ↓splitB_false, go_sem, c11, ne_nil c11, Nat.sub_pos_of_lt c11, (by omega : (nth xs k).1.length ≤ 1048576), (by omega : (nth xs k).2.length ≤ 1048576)]
    | refine AW_region (id := 4) Γ7_ok [] (by kernel_rfl) ?_; simp  [-List.getD_eq_getElem?_getD, -List.drop_one, ↓splitB_true, ↓splitB_false, go_sem, wrapS (k := k) (by omega)]
    | ((obtain rfl : k = xs.length := by omega); refine AW_unmat 3 (b := b) (all := cat oP xs ++ List.replicate j .any) rfl (by simp [go_sem, fill_all]) (by omega) (by simp [cat_length]) (by simp [cat_length]; omega) ?_); refine AW_region (id := 6) Γ7_ok [] (by kernel_rfl) ?_; simp  [-List.getD_eq_getElem?_getD, -List.drop_one, ↓splitB_true, ↓splitB_false, go_sem]
    | refine AW_condA (c := .tmp 11) ?_; simp [-List.getD_eq_getElem?_getD, -List.drop_one, ↓splitB_true, ↓splitB_false, go_sem]; try first | (refine ⟨?_, ?_⟩ <;> change AW _ _ _ _ _ _) | (refine ⟨fun c11 => ?_, fun c11 => ?_⟩ <;> (try simp [B_iff, B_not] at c11))
    | (refine AW_block (id := 0) (AW_loop (ι := Nat) (fun k : Nat => ⟨(upd (upd (upd (fun _ => .any) 0 (li cP xs)) 3 (.sl b 2 0 xs.length cp)) 4 (.int .i64 k)), upd (fun _ => none) b (some (fillC oP [.nil,.nil] 2 xs k (List.replicate j .any)))⟩) (fun k => k ≤ xs.length) (fun k => xs.length - k) (0) ?_ ?_ ?_); exact Nat.zero_le _; ((repeat' (first | exact sub_noneH (by assumption) | exact sub_none | refine sub_upd ?_ ?_ | refine sub_noneE ?_)) <;> simp [-List.getD_eq_getElem?_getD, -List.drop_one, ↓splitB_true, ↓splitB_false, go_sem, fill_zero]); rintro k hk)
    | (refine ⟨k + 1, by omega, by first | omega | (simp; done) | (simp; omega), ?_⟩; ((repeat' (first | exact sub_noneH (by assumption) | exact sub_none | refine sub_upd ?_ ?_ | refine sub_noneE ?_)) <;> simp [-List.getD_eq_getElem?_getD, -List.drop_one, ↓splitB_true, ↓splitB_false, go_sem, fill_zero]))
    | (refine AW_block ?_)
    | (refine AW_exit ?_; simp [-List.getD_eq_getElem?_getD, -List.drop_one, ↓splitB_true, ↓splitB_false, go_sem])
    | (refine AW_skip ?_; simp [-List.getD_eq_getElem?_getD, -List.drop_one, ↓splitB_true, ↓splitB_false, go_sem])
    | (refine AW_ret ?_; simp [-List.getD_eq_getElem?_getD, -List.drop_one, ↓splitB_true, ↓splitB_false, go_sem, Try.results98])
    | (intro hx; change AW _ _ _ _ _ _)
    | (refine ⟨?_, ?_⟩ <;> change AW _ _ _ _ _ _)
    | (intro hx; refine ⟨fun hs => ?_, fun hs => ?_⟩)
    | (refine ⟨fun hs => ?_, fun hs => ?_⟩)
    | (refine ⟨?_, fun hs => ?_⟩; change AW _ _ _ _ _ _)
    | (refine ⟨fun hs => ?_, ?_⟩; rotate_left; change AW _ _ _ _ _ _; rotate_left)))
noncomputable def toStateS_pureC : Con := .pure fun
  | [.list n_xs c_xs] => ((Is cP n_xs c_xs) ∧ ((de cP c_xs).length + msum mP (de cP c_xs) (de cP c_xs).length ≤ 1048576), fr 2 oP (de cP c_xs))
  | _ => (False, .any)
attribute [go_sem] toStateS_pureC
theorem toStateS_pureC_ok : ConOk Try.prog 98 toStateS_pureC := by
  refine ⟨callable Try.func98 (by decide) rfl, fun args h => ?_⟩
  revert h
  dsimp only
  split
  · intro h
    obtain ⟨⟨xs, rfl, rfl⟩, h0⟩ := h
    try simp only [de_cat] at *
    exact ⟨toStateS_pure xs h0, by simp [go_sem]⟩
  · intro h
    exact h.elim
noncomputable def Γ8 : FuncId → Con := ext Γ7 98 toStateS_pureC
attribute [go_sem] Γ8
theorem Γ8_ok : ∀ g, ConOk Try.prog g (Γ8 g) := ext_ok Γ7_ok toStateS_pureC_ok

theorem eqStateS_pure (xs : List Ints2) (ys : List Ints2)  : Pure Try.prog 100 [li cP xs, li cP ys] (.bool (decide (xs = ys))) := by
  refine Pure.of_walk Try.func100 rfl (by simp [Try.f100]) (by simp [-List.drop_one, go_sem]) fun B hK => ?_
  (repeat' (first
    | refine AW_seq ?_
    | (refine AW_len 0 rfl fun hm => ?_); refine AW_region (id := 0) Γ8_ok [] (by kernel_rfl) ?_; simp  [-List.getD_eq_getElem?_getD, -List.drop_one, ↓splitB_true, ↓splitB_false, go_sem]
    | refine AW_region (id := 1) Γ8_ok [] (by kernel_rfl) ?_; simp  [-List.getD_eq_getElem?_getD, -List.drop_one, ↓splitB_true, ↓splitB_false, go_sem]
    | refine AW_region (id := 2) Γ8_ok [] (by kernel_rfl) ?_; simp  [-List.getD_eq_getElem?_getD, -List.drop_one, ↓splitB_true, ↓splitB_false, go_sem]
    | refine AW_region (id := 3) Γ8_ok [] (by kernel_rfl) ?_; simp  [-List.getD_eq_getElem?_getD, -List.drop_one, ↓splitB_true, ↓splitB_false, go_sem]
    | refine AW_region (id := 4) Γ8_ok [] (by kernel_rfl) ?_; simp  [-List.getD_eq_getElem?_getD, -List.drop_one, ↓splitB_true, ↓splitB_false, go_sem]
    | (have cy : k < ys.length := by omega); refine AW_region_draw (id := 6) Γ8_ok mixed [] [5] (by kernel_rfl) (by kernel_rfl) (by simp [-List.getD_eq_getElem?_getD, -List.drop_one, ↓splitB_true, ↓splitB_false, go_sem, c14, ne_nil c14, Nat.sub_pos_of_lt c14, cy, ne_nil cy, Nat.sub_pos_of_lt cy]) ?_; simp  [-List.getD_eq_getElem?_getD, -List.drop_one, ↓splitB_true, ↓splitB_false, go_sem, c14, ne_nil c14, Nat.sub_pos_of_lt c14, cy, ne_nil cy, Nat.sub_pos_of_lt cy]
    | refine AW_region (id := 7) Γ8_ok [] (by kernel_rfl) ?_; simp  [-List.getD_eq_getElem?_getD, -List.drop_one, ↓splitB_true, ↓splitB_false, go_sem]
    | refine AW_region (id := 5) Γ8_ok [] (by kernel_rfl) ?_; simp  [-List.getD_eq_getElem?_getD, -List.drop_one, ↓splitB_true, ↓splitB_false, go_sem, wrapS (k := k) (by omega)]
    | refine AW_region (id := 8) Γ8_ok [] (by kernel_rfl) ?_; simp  [-List.getD_eq_getElem?_getD, -List.drop_one, ↓splitB_true, ↓splitB_false, go_sem]
    | refine AW_condA (c := .tmp 10) ?_; simp [-List.getD_eq_getElem?_getD, -List.drop_one, ↓splitB_true, ↓splitB_false, go_sem]; try first | (refine ⟨?_, ?_⟩ <;> change AW _ _ _ _ _ _) | (refine ⟨fun c10 => ?_, fun c10 => ?_⟩ <;> (try simp [B_iff, B_not] at c10))
    | refine AW_condA (c := .tmp 14) ?_; simp [-List.getD_eq_getElem?_getD, -List.drop_one, ↓splitB_true, ↓splitB_false, go_sem]; try first | (refine ⟨?_, ?_⟩ <;> change AW _ _ _ _ _ _) | (refine ⟨fun c14 => ?_, fun c14 => ?_⟩ <;> (try simp [B_iff, B_not] at c14))
    | refine AW_condA (c := .tmp 26) ?_; simp [-List.getD_eq_getElem?_getD, -List.drop_one, ↓splitB_true, ↓splitB_false, go_sem]; try first | (refine ⟨?_, ?_⟩ <;> change AW _ _ _ _ _ _) | (refine ⟨fun c26 => ?_, fun c26 => ?_⟩ <;> (try simp [B_iff, B_not] at c26))
    | (refine AW_block (id := 0) (AW_loop (ι := Nat) (fun k : Nat => ⟨(upd (upd (upd (fun _ => .any) 0 (li cP xs)) 1 (li cP ys)) 5 (.int .i64 k)), fun _ => none⟩) (fun k => k ≤ xs.length ∧ NoneTill (neAt xs ys) k) (fun k => xs.length - k) (0) ?_ ?_ ?_); exact ⟨Nat.zero_le _, .zero _⟩; ((repeat' (first | exact sub_noneH (by assumption) | exact sub_none | refine sub_upd ?_ ?_ | refine sub_noneE ?_)) <;> simp [-List.getD_eq_getElem?_getD, -List.drop_one, ↓splitB_true, ↓splitB_false, go_sem]); rintro k ⟨hk, ht⟩)
    | (refine ⟨k + 1, ⟨by omega, ht.succ (by simp [neAt]; first | exact c26 | (apply Prod.ext <;> simp_all; done) | (simp_all [Prod.ext_iff]; done) | simp_all)⟩, by first | omega | (simp; done) | (simp; omega), ?_⟩; ((repeat' (first | exact sub_noneH (by assumption) | exact sub_none | refine sub_upd ?_ ?_ | refine sub_noneE ?_)) <;> simp [-List.getD_eq_getElem?_getD, -List.drop_one, ↓splitB_true, ↓splitB_false, go_sem]))
    | (refine AW_block ?_)
    | (refine AW_exit ?_; simp [-List.getD_eq_getElem?_getD, -List.drop_one, ↓splitB_true, ↓splitB_false, go_sem])
    | (refine AW_skip ?_; simp [-List.getD_eq_getElem?_getD, -List.drop_one, ↓splitB_true, ↓splitB_false, go_sem])
    | (refine AW_ret ?_; simp [-List.getD_eq_getElem?_getD, -List.drop_one, ↓splitB_true, ↓splitB_false, go_sem, Try.results100])
    | (intro hx; change AW _ _ _ _ _ _)
    | (refine ⟨?_, ?_⟩ <;> change AW _ _ _ _ _ _)
    | (intro hx; refine ⟨fun hs => ?_, fun hs => ?_⟩)
    | (refine ⟨fun hs => ?_, fun hs => ?_⟩)
    | (refine ⟨?_, fun hs => ?_⟩; change AW _ _ _ _ _ _)
    | (refine ⟨fun hs => ?_, ?_⟩; rotate_left; change AW _ _ _ _ _ _; rotate_left)))
  all_goals (first
    | (rintro rfl; simp at c10; done)
    | (rintro rfl; simp at c26; done)
    | exact eq_of_none (by omega) ht (by omega)
    | skip)
noncomputable def eqStateS_pureC : Con := .pure fun
  | [.list n_xs c_xs, .list n_ys c_ys] => ((Is cP n_xs c_xs) ∧ (Is cP n_ys c_ys), .bool (decide ((de cP c_xs) = (de cP c_ys))))
  | _ => (False, .any)
attribute [go_sem] eqStateS_pureC
theorem eqStateS_pureC_ok : ConOk Try.prog 100 eqStateS_pureC := by
  refine ⟨callable Try.func100 (by decide) rfl, fun args h => ?_⟩
  revert h
  dsimp only
  split
  · intro h
    obtain ⟨⟨xs, rfl, rfl⟩, ⟨ys, rfl, rfl⟩⟩ := h
    try simp only [de_cat] at *
    exact ⟨eqStateS_pure xs ys, by simp [go_sem]⟩
  · intro h
    exact h.elim
noncomputable def Γ9 : FuncId → Con := ext Γ8 100 eqStateS_pureC
attribute [go_sem] Γ9
theorem Γ9_ok : ∀ g, ConOk Try.prog g (Γ9 g) := ext_ok Γ8_ok eqStateS_pureC_ok

theorem szIntSS_pure (xs : List (List Int)) (left : Int) (h0 : -1 ≤ left) (h1 : left ≤ 1048576) : Pure Try.prog 95 [li cL xs, .int .i64 left] (.int .i64 (szOf left (xs.length + msum mL xs xs.length))) := by
  refine Pure.of_walk Try.func95 rfl (by simp [Try.f95]) (by simp [-List.drop_one, go_sem]) fun B hK => ?_
  (repeat' (first
    | refine AW_seq ?_
    | (refine AW_len 0 rfl fun hm => ?_); refine AW_region (id := 0) Γ9_ok [] (by kernel_rfl) ?_; simp  [-List.getD_eq_getElem?_getD, -List.drop_one, ↓splitB_true, ↓splitB_false, go_sem]
    | refine AW_region (id := 1) Γ9_ok [] (by kernel_rfl) ?_; simp  [-List.getD_eq_getElem?_getD, -List.drop_one, ↓splitB_true, ↓splitB_false, go_sem, wrap_sub h0 h1 hm]
    | refine AW_region (id := 2) Γ9_ok [] (by kernel_rfl) ?_; simp  [-List.getD_eq_getElem?_getD, -List.drop_one, ↓splitB_true, ↓splitB_false, go_sem]
    | refine AW_region (id := 3) Γ9_ok [] (by kernel_rfl) ?_; simp  [-List.getD_eq_getElem?_getD, -List.drop_one, ↓splitB_true, ↓splitB_false, go_sem]
    | refine AW_region (id := 4) Γ9_ok [] (by kernel_rfl) ?_; simp  [-List.getD_eq_getElem?_getD, -List.drop_one, ↓splitB_true, ↓splitB_false, go_sem]
    | refine AW_region (id := 5) Γ9_ok [] (by kernel_rfl) ?_; simp  [-List.getD_eq_getElem?_getD, -List.drop_one, ↓splitB_true, ↓splitB_false, go_sem, wrapS (k := k) (by omega)]
    | refine AW_region (id := 7) Γ9_ok [] (by kernel_rfl) ?_; simp  [-List.getD_eq_getElem?_getD, -List.drop_one, ↓splitB_true, ↓splitB_false, go_sem, c15, ne_nil c15, Nat.sub_pos_of_lt c15, szOf_lo h0, szOf_hi h1]
    | refine AW_region (id := 8) Γ9_ok [] (by kernel_rfl) ?_; simp  [-List.getD_eq_getElem?_getD, -List.drop_one, ↓splitB_true, ↓splitB_false, go_sem]
    | refine AW_region (id := 9) Γ9_ok [] (by kernel_rfl) ?_; simp  [-List.getD_eq_getElem?_getD, -List.drop_one, ↓splitB_true, ↓splitB_false, go_sem]
    | refine AW_region (id := 6) Γ9_ok [] (by kernel_rfl) ?_; simp  [-List.getD_eq_getElem?_getD, -List.drop_one, ↓splitB_true, ↓splitB_false, go_sem, wrapS (k := k) (by omega)]
    | refine AW_region (id := 10) Γ9_ok [] (by kernel_rfl) ?_; simp  [-List.getD_eq_getElem?_getD, -List.drop_one, ↓splitB_true, ↓splitB_false, go_sem]
    | refine AW_condA (c := .tmp 11) ?_; simp [-List.getD_eq_getElem?_getD, -List.drop_one, ↓splitB_true, ↓splitB_false, go_sem]; try first | (refine ⟨?_, ?_⟩ <;> change AW _ _ _ _ _ _) | (refine ⟨fun c11 => ?_, fun c11 => ?_⟩ <;> (try simp [B_iff, B_not] at c11))
    | refine AW_condA (c := .tmp 15) ?_; simp [-List.getD_eq_getElem?_getD, -List.drop_one, ↓splitB_true, ↓splitB_false, go_sem]; try first | (refine ⟨?_, ?_⟩ <;> change AW _ _ _ _ _ _) | (refine ⟨fun c15 => ?_, fun c15 => ?_⟩ <;> (try simp [B_iff, B_not] at c15))
    | refine AW_condA (c := .tmp 25) ?_; simp [-List.getD_eq_getElem?_getD, -List.drop_one, ↓splitB_true, ↓splitB_false, go_sem]; try first | (refine ⟨?_, ?_⟩ <;> change AW _ _ _ _ _ _) | (refine ⟨fun c25 => ?_, fun c25 => ?_⟩ <;> (try simp [B_iff, B_not] at c25))
    | (refine AW_block (id := 0) (AW_loop (ι := Nat) (fun k : Nat => ⟨(upd (upd (upd (fun _ => .any) 0 (li cL xs)) 1 (.int .i64 (szOf left (xs.length + msum mL xs k)))) 5 (.int .i64 k)), fun _ => none⟩) (fun k => k ≤ xs.length) (fun k => xs.length - k) (0) ?_ ?_ ?_); exact Nat.zero_le _; ((repeat' (first | exact sub_noneH (by assumption) | exact sub_none | refine sub_upd ?_ ?_ | refine sub_noneE ?_)) <;> simp [-List.getD_eq_getElem?_getD, -List.drop_one, ↓splitB_true, ↓splitB_false, go_sem, szOf_yes c11]); rintro k hk)
    | (refine ⟨k + 1, by omega, by first | omega | (simp; done) | (simp; omega), ?_⟩; ((repeat' (first | exact sub_noneH (by assumption) | exact sub_none | refine sub_upd ?_ ?_ | refine sub_noneE ?_)) <;> simp [-List.getD_eq_getElem?_getD, -List.drop_one, ↓splitB_true, ↓splitB_false, go_sem, szOf_szOf h0, msum_succ c15, mL, Nat.add_assoc]))
    | (refine AW_block ?_)
    | (refine AW_exit ?_; simp [-List.getD_eq_getElem?_getD, -List.drop_one, ↓splitB_true, ↓splitB_false, go_sem])
    | (refine AW_skip ?_; simp [-List.getD_eq_getElem?_getD, -List.drop_one, ↓splitB_true, ↓splitB_false, go_sem])
    | (refine AW_ret ?_; simp [-List.getD_eq_getElem?_getD, -List.drop_one, ↓splitB_true, ↓splitB_false, go_sem, Try.results95])
    | (intro hx; change AW _ _ _ _ _ _)
    | (refine ⟨?_, ?_⟩ <;> change AW _ _ _ _ _ _)
    | (intro hx; refine ⟨fun hs => ?_, fun hs => ?_⟩)
    | (refine ⟨fun hs => ?_, fun hs => ?_⟩)
    | (refine ⟨?_, fun hs => ?_⟩; change AW _ _ _ _ _ _)
    | (refine ⟨fun hs => ?_, ?_⟩; rotate_left; change AW _ _ _ _ _ _; rotate_left)))
  all_goals (first
    | rw [szOf_no (by omega)]
    | (rw [szOf_szOf h0, Nat.add_assoc] at *; have hms := msum_succ (m := mL) c15; have hmm := msum_mono (m := mL) (xs := xs) (show k + 1 ≤ xs.length from c15); simp only [mL] at hms; exact (szOf_neg (by assumption) h0 (by omega)).symm)
    | (rw [msum_ge (by omega)])
    | skip)
noncomputable def szIntSS_pureC : Con := .pure fun
  | [.list n_xs c_xs, .int .i64 left] => ((Is cL n_xs c_xs) ∧ (-1 ≤ left) ∧ (left ≤ 1048576), .int .i64 (szOf left ((de cL c_xs).length + msum mL (de cL c_xs) (de cL c_xs).length)))
  | _ => (False, .any)
attribute [go_sem] szIntSS_pureC
theorem szIntSS_pureC_ok : ConOk Try.prog 95 szIntSS_pureC := by
  refine ⟨callable Try.func95 (by decide) rfl, fun args h => ?_⟩
  revert h
  dsimp only
  split
  · intro h
    obtain ⟨⟨xs, rfl, rfl⟩, h0, h1⟩ := h
    try simp only [de_cat] at *
    exact ⟨szIntSS_pure xs _ h0 h1, by simp [go_sem]⟩
  · intro h
    exact h.elim
noncomputable def Γ10 : FuncId → Con := ext Γ9 95 szIntSS_pureC
attribute [go_sem] Γ10
theorem Γ10_ok : ∀ g, ConOk Try.prog g (Γ10 g) := ext_ok Γ9_ok szIntSS_pureC_ok

theorem toIntSS_pure (xs : List (List Int)) (h0 : xs.length + msum mL xs xs.length ≤ 1048576) : Pure Try.prog 99 [li cL xs] (fr 1 oL xs) := by
  refine Pure.of_walk Try.func99 rfl (by simp [Try.f99]) (by simp [-List.drop_one, go_sem]) fun B hK => ?_
  (repeat' (first
    | refine AW_seq ?_
    | refine AW_region (id := 0) Γ10_ok [] (by kernel_rfl) ?_; simp  [-List.getD_eq_getElem?_getD, -List.drop_one, ↓splitB_true, ↓splitB_false, go_sem]
    | refine AW_region (id := 1) Γ10_ok [] (by kernel_rfl) ?_; simp  [-List.getD_eq_getElem?_getD, -List.drop_one, ↓splitB_true, ↓splitB_false, go_sem, (by omega : 48 * (xs.length : Int) ≤ 281474976710656), (by omega : 24 * (xs.length : Int) ≤ 281474976710656), (by omega : 64 * (xs.length : Int) ≤ 281474976710656), (by omega : (xs.length : Int) ≤ 9223372036854775807)]; try ((refine AW_mat 3 rfl fun b cp j _ hcp hj => ?_))
    | refine AW_region (id := 2) Γ10_ok [] (by kernel_rfl) ?_; simp  [-List.getD_eq_getElem?_getD, -List.drop_one, ↓splitB_true, ↓splitB_false, go_sem]
    | refine AW_region (id := 3) Γ10_ok [] (by kernel_rfl) ?_; simp  [-List.getD_eq_getElem?_getD, -List.drop_one, ↓splitB_true, ↓splitB_false, go_sem]
    | (have hms := msum_at (m := mL) c11; simp only [mL] at hms); refine AW_region (id := 5) Γ10_ok [] (by kernel_rfl) ?_; simp  [-List.getD_eq_getElem?_getD, -List.drop_one, ↓splitB_true, ↓splitB_false, go_sem, c11, ne_nil c11, Nat.sub_pos_of_lt c11, hms, (by omega : (nth xs k).length ≤ 1048576)]
    | refine AW_region (id := 4) Γ10_ok [] (by kernel_rfl) ?_; simp  [-List.getD_eq_getElem?_getD, -List.drop_one, ↓splitB_true, ↓splitB_false, go_sem, wrapS (k := k) (by omega)]
    | ((obtain rfl : k = xs.length := by omega); refine AW_unmat 3 (b := b) (all := cat oL xs ++ List.replicate j .any) rfl (by simp [go_sem, fill_all]) (by omega) (by simp [cat_length]) (by simp [cat_length]; omega) ?_); refine AW_region (id := 6) Γ10_ok [] (by kernel_rfl) ?_; simp  [-List.getD_eq_getElem?_getD, -List.drop_one, ↓splitB_true, ↓splitB_false, go_sem]
    | refine AW_condA (c := .tmp 11) ?_; simp [-List.getD_eq_getElem?_getD, -List.drop_one, ↓splitB_true, ↓splitB_false, go_sem]; try first | (refine ⟨?_, ?_⟩ <;> change AW _ _ _ _ _ _) | (refine ⟨fun c11 => ?_, fun c11 => ?_⟩ <;> (try simp [B_iff, B_not] at c11))
    | (refine AW_block (id := 0) (AW_loop (ι := Nat) (fun k : Nat => ⟨(upd (upd (upd (fun _ => .any) 0 (li cL xs)) 3 (.sl b 1 0 xs.length cp)) 4 (.int .i64 k)), upd (fun _ => none) b (some (fillC oL [.nil] 1 xs k (List.replicate j .any)))⟩) (fun k => k ≤ xs.length) (fun k => xs.length - k) (0) ?_ ?_ ?_); exact Nat.zero_le _; ((repeat' (first | exact sub_noneH (by assumption) | exact sub_none | refine sub_upd ?_ ?_ | refine sub_noneE ?_)) <;> simp [-List.getD_eq_getElem?_getD, -List.drop_one, ↓splitB_true, ↓splitB_false, go_sem, fill_zero]); rintro k hk)
    | (refine ⟨k + 1, by omega, by first | omega | (simp; done) | (simp; omega), ?_⟩; ((repeat' (first | exact sub_noneH (by assumption) | exact sub_none | refine sub_upd ?_ ?_ | refine sub_noneE ?_)) <;> simp [-List.getD_eq_getElem?_getD, -List.drop_one, ↓splitB_true, ↓splitB_false, go_sem, fill_zero]))
    | (refine AW_block ?_)
    | (refine AW_exit ?_; simp [-List.getD_eq_getElem?_getD, -List.drop_one, ↓splitB_true, ↓splitB_false, go_sem])
    | (refine AW_skip ?_; simp [-List.getD_eq_getElem?_getD, -List.drop_one, ↓splitB_true, ↓splitB_false, go_sem])
    | (refine AW_ret ?_; simp [-List.getD_eq_getElem?_getD, -List.drop_one, ↓splitB_true, ↓splitB_false, go_sem, Try.results99])
    | (intro hx; change AW _ _ _ _ _ _)
    | (refine ⟨?_, ?_⟩ <;> change AW _ _ _ _ _ _)
    | (intro hx; refine ⟨fun hs => ?_, fun hs => ?_⟩)
    | (refine ⟨fun hs => ?_, fun hs => ?_⟩)
    | (refine ⟨?_, fun hs => ?_⟩; change AW _ _ _ _ _ _)
    | (refine ⟨fun hs => ?_, ?_⟩; rotate_left; change AW _ _ _ _ _ _; rotate_left)))
noncomputable def toIntSS_pureC : Con := .pure fun
  | [.list n_xs c_xs] => ((Is cL n_xs c_xs) ∧ ((de cL c_xs).length + msum mL (de cL c_xs) (de cL c_xs).length ≤ 1048576), fr 1 oL (de cL c_xs))
  | _ => (False, .any)
attribute [go_sem] toIntSS_pureC
theorem toIntSS_pureC_ok : ConOk Try.prog 99 toIntSS_pureC := by
  refine ⟨callable Try.func99 (by decide) rfl, fun args h => ?_⟩
  revert h
  dsimp only
  split
  · intro h
    obtain ⟨⟨xs, rfl, rfl⟩, h0⟩ := h
    try simp only [de_cat] at *
    exact ⟨toIntSS_pure xs h0, by simp [go_sem]⟩
  · intro h
    exact h.elim
noncomputable def Γ11 : FuncId → Con := ext Γ10 99 toIntSS_pureC
attribute [go_sem] Γ11
theorem Γ11_ok : ∀ g, ConOk Try.prog g (Γ11 g) := ext_ok Γ10_ok toIntSS_pureC_ok

theorem eqIntSS_pure (xs : List (List Int)) (ys : List (List Int))  : Pure Try.prog 101 [li cL xs, li cL ys] (.bool (decide (xs = ys))) := by
  refine Pure.of_walk Try.func101 rfl (by simp [Try.f101]) (by simp [-List.drop_one, go_sem]) fun B hK => ?_
  (repeat' (first
    | refine AW_seq ?_
    | (refine AW_len 0 rfl fun hm => ?_); refine AW_region (id := 0) Γ11_ok [] (by kernel_rfl) ?_; simp  [-List.getD_eq_getElem?_getD, -List.drop_one, ↓splitB_true, ↓splitB_false, go_sem]
    | refine AW_region (id := 1) Γ11_ok [] (by kernel_rfl) ?_; simp  [-List.getD_eq_getElem?_getD, -List.drop_one, ↓splitB_true, ↓splitB_false, go_sem]
    | refine AW_region (id := 2) Γ11_ok [] (by kernel_rfl) ?_; simp  [-List.getD_eq_getElem?_getD, -List.drop_one, ↓splitB_true, ↓splitB_false, go_sem]
    | refine AW_region (id := 3) Γ11_ok [] (by kernel_rfl) ?_; simp  [-List.getD_eq_getElem?_getD, -List.drop_one, ↓splitB_true, ↓splitB_false, go_sem]
    | refine AW_region (id := 4) Γ11_ok [] (by kernel_rfl) ?_; simp  [-List.getD_eq_getElem?_getD, -List.drop_one, ↓splitB_true, ↓splitB_false, go_sem]
    | (have cy : k < ys.length := by omega); refine AW_region_draw (id := 6) Γ11_ok mixed [] [5] (by kernel_rfl) (by kernel_rfl) (by simp [-List.getD_eq_getElem?_getD, -List.drop_one, ↓splitB_true, ↓splitB_false, go_sem, c14, ne_nil c14, Nat.sub_pos_of_lt c14, cy, ne_nil cy, Nat.sub_pos_of_lt cy]) ?_; simp  [-List.getD_eq_getElem?_getD, -List.drop_one, ↓splitB_true, ↓splitB_false, go_sem, c14, ne_nil c14, Nat.sub_pos_of_lt c14, cy, ne_nil cy, Nat.sub_pos_of_lt cy]
    | refine AW_region (id := 7) Γ11_ok [] (by kernel_rfl) ?_; simp  [-List.getD_eq_getElem?_getD, -List.drop_one, ↓splitB_true, ↓splitB_false, go_sem]
    | refine AW_region (id := 5) Γ11_ok [] (by kernel_rfl) ?_; simp  [-List.getD_eq_getElem?_getD, -List.drop_one, ↓splitB_true, ↓splitB_false, go_sem, wrapS (k := k) (by omega)]
    | refine AW_region (id := 8) Γ11_ok [] (by kernel_rfl) ?_; simp  [-List.getD_eq_getElem?_getD, -List.drop_one, ↓splitB_true, ↓splitB_false, go_sem]
    | refine AW_condA (c := .tmp 10) ?_; simp [-List.getD_eq_getElem?_getD, -List.drop_one, ↓splitB_true, ↓splitB_false, go_sem]; try first | (refine ⟨?_, ?_⟩ <;> change AW _ _ _ _ _ _) | (refine ⟨fun c10 => ?_, fun c10 => ?_⟩ <;> (try simp [B_iff, B_not] at c10))
    | refine AW_condA (c := .tmp 14) ?_; simp [-List.getD_eq_getElem?_getD, -List.drop_one, ↓splitB_true, ↓splitB_false, go_sem]; try first | (refine ⟨?_, ?_⟩ <;> change AW _ _ _ _ _ _) | (refine ⟨fun c14 => ?_, fun c14 => ?_⟩ <;> (try simp [B_iff, B_not] at c14))
    | refine AW_condA (c := .tmp 26) ?_; simp [-List.getD_eq_getElem?_getD, -List.drop_one, ↓splitB_true, ↓splitB_false, go_sem]; try first | (refine ⟨?_, ?_⟩ <;> change AW _ _ _ _ _ _) | (refine ⟨fun c26 => ?_, fun c26 => ?_⟩ <;> (try simp [B_iff, B_not] at c26))
    | (refine AW_block (id := 0) (AW_loop (ι := Nat) (fun k : Nat => ⟨(upd (upd (upd (fun _ => .any) 0 (li cL xs)) 1 (li cL ys)) 5 (.int .i64 k)), fun _ => none⟩) (fun k => k ≤ xs.length ∧ NoneTill (neAt xs ys) k) (fun k => xs.length - k) (0) ?_ ?_ ?_); exact ⟨Nat.zero_le _, .zero _⟩; ((repeat' (first | exact sub_noneH (by assumption) | exact sub_none | refine sub_upd ?_ ?_ | refine sub_noneE ?_)) <;> simp [-List.getD_eq_getElem?_getD, -List.drop_one, ↓splitB_true, ↓splitB_false, go_sem]); rintro k ⟨hk, ht⟩)
    | (refine ⟨k + 1, ⟨by omega, ht.succ (by simp [neAt]; first | exact c26 | (apply Prod.ext <;> simp_all; done) | (simp_all [Prod.ext_iff]; done) | simp_all)⟩, by first | omega | (simp; done) | (simp; omega), ?_⟩; ((repeat' (first | exact sub_noneH (by assumption) | exact sub_none | refine sub_upd ?_ ?_ | refine sub_noneE ?_)) <;> simp [-List.getD_eq_getElem?_getD, -List.drop_one, ↓splitB_true, ↓splitB_false, go_sem]))
    | (refine AW_block ?_)
    | (refine AW_exit ?_; simp [-List.getD_eq_getElem?_getD, -List.drop_one, ↓splitB_true, ↓splitB_false, go_sem])
    | (refine AW_skip ?_; simp [-List.getD_eq_getElem?_getD, -List.drop_one, ↓splitB_true, ↓splitB_false, go_sem])
    | (refine AW_ret ?_; simp [-List.getD_eq_getElem?_getD, -List.drop_one, ↓splitB_true, ↓splitB_false, go_sem, Try.results101])
    | (intro hx; change AW _ _ _ _ _ _)
    | (refine ⟨?_, ?_⟩ <;> change AW _ _ _ _ _ _)
    | (intro hx; refine ⟨fun hs => ?_, fun hs => ?_⟩)
    | (refine ⟨fun hs => ?_, fun hs => ?_⟩)
    | (refine ⟨?_, fun hs => ?_⟩; change AW _ _ _ _ _ _)
    | (refine ⟨fun hs => ?_, ?_⟩; rotate_left; change AW _ _ _ _ _ _; rotate_left)))
  all_goals (first
    | (rintro rfl; simp at c10; done)
    | (rintro rfl; simp at c26; done)
    | exact eq_of_none (by omega) ht (by omega)
    | skip)
noncomputable def eqIntSS_pureC : Con := .pure fun
  | [.list n_xs c_xs, .list n_ys c_ys] => ((Is cL n_xs c_xs) ∧ (Is cL n_ys c_ys), .bool (decide ((de cL c_xs) = (de cL c_ys))))
  | _ => (False, .any)
attribute [go_sem] eqIntSS_pureC
theorem eqIntSS_pureC_ok : ConOk Try.prog 101 eqIntSS_pureC := by
  refine ⟨callable Try.func101 (by decide) rfl, fun args h => ?_⟩
  revert h
  dsimp only
  split
  · intro h
    obtain ⟨⟨xs, rfl, rfl⟩, ⟨ys, rfl, rfl⟩⟩ := h
    try simp only [de_cat] at *
    exact ⟨eqIntSS_pure xs ys, by simp [go_sem]⟩
  · intro h
    exact h.elim
noncomputable def Γ12 : FuncId → Con := ext Γ11 101 eqIntSS_pureC
attribute [go_sem] Γ12
theorem Γ12_ok : ∀ g, ConOk Try.prog g (Γ12 g) := ext_ok Γ11_ok eqIntSS_pureC_ok

end Go.Proofs.Ytljncoikoffijaa.Vm

