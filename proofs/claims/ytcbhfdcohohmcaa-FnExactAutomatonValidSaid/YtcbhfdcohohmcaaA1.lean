/-
  Automata: rows of Bools, of transitions; sz, to, eq. No conditions.
-/
import Derived.Test.YtcbhfdcohohmcaaF1
namespace Go.Proofs.Ytcbhfdcohohmcaa.Vm
open Go
set_option linter.unusedVariables false
set_option linter.unusedSimpArgs false
set_option maxRecDepth 200000

abbrev Tr4 := Int × Int × Int × Int
def cT (x : Tr4) : List D := [.int .i64 x.1, .int .i64 x.2.1, .int .i64 x.2.2.1, .int .i64 x.2.2.2]
instance : Wide cT 4 := ⟨fun _ => rfl, by omega, fun _ => rfl⟩
instance : Plain cT := ⟨fun _ => rfl, fun _ _ _ => rfl, fun _ _ => ⟨trivial, trivial, trivial, trivial, trivial⟩, fun a b h => by simp only [cT, List.cons.injEq, D.int.injEq, true_and, and_true] at h; exact Prod.ext h.1 (Prod.ext h.2.1 (Prod.ext h.2.2.1 h.2.2.2))⟩
instance : Own cT cT 1 := ⟨fun _ => rfl, fun _ => rfl, fun _ _ => ⟨trivial, trivial, trivial, trivial, trivial⟩, fun _ _ j h => by obtain ⟨j, rfl⟩ : ∃ i, j = i + 1 := ⟨j - 1, by omega⟩; rfl⟩
attribute [go_sem] cT
@[go_sem] theorem fill_cT {z1 z2 z3 z4 : D} {xs : List Tr4} {k : Nat} {junk : List D} (h : k < xs.length) : stSeg (fillC cT [z1, z2, z3, z4] 4 xs k junk) (k * 4) [.int .i64 (nth xs k).1, .int .i64 (nth xs k).2.1, .int .i64 (nth xs k).2.2.1, .int .i64 (nth xs k).2.2.2] = fillC cT [z1, z2, z3, z4] 4 xs (k + 1) junk := fill_store (f := cT) (sz := 4) (z := [z1, z2, z3, z4]) rfl h junk

theorem szBoolS_pure (xs : List Bool) (left : Int) (h0 : -1 ≤ left) (h1 : left ≤ 1048576) : Pure Try.prog 30 [li cB xs, .int .i64 left] (.int .i64 (szOf left xs.length)) := by
  refine Pure.of_walk Try.func30 rfl (by simp [Try.f30]) (by simp [-List.drop_one, go_sem]) fun B hK => ?_
  (repeat' (first
    | refine AW_seq ?_
    | (refine AW_len 0 rfl fun hm => ?_); refine AW_region (id := 0) Γ3_ok [] (by kernel_rfl) ?_; simp  [-List.getD_eq_getElem?_getD, -List.drop_one, ↓splitB_true, ↓splitB_false, go_sem]
    | refine AW_region (id := 1) Γ3_ok [] (by kernel_rfl) ?_; simp  [-List.getD_eq_getElem?_getD, -List.drop_one, ↓splitB_true, ↓splitB_false, go_sem, wrap_sub h0 h1 hm]
    | refine AW_region (id := 2) Γ3_ok [] (by kernel_rfl) ?_; simp  [-List.getD_eq_getElem?_getD, -List.drop_one, ↓splitB_true, ↓splitB_false, go_sem]
    | refine AW_region (id := 3) Γ3_ok [] (by kernel_rfl) ?_; simp  [-List.getD_eq_getElem?_getD, -List.drop_one, ↓splitB_true, ↓splitB_false, go_sem]
    | refine AW_region (id := 4) Γ3_ok [] (by kernel_rfl) ?_; simp  [-List.getD_eq_getElem?_getD, -List.drop_one, ↓splitB_true, ↓splitB_false, go_sem]
    | refine AW_condA (c := .tmp 10) ?_; simp [-List.getD_eq_getElem?_getD, -List.drop_one, ↓splitB_true, ↓splitB_false, go_sem]; try (refine ⟨fun c10 => ?_, fun c10 => ?_⟩ <;> (try simp [B_iff, B_not] at c10))
    | (refine AW_block ?_)
    | (refine AW_exit ?_; simp [-List.getD_eq_getElem?_getD, -List.drop_one, ↓splitB_true, ↓splitB_false, go_sem])
    | (refine AW_skip ?_; simp [-List.getD_eq_getElem?_getD, -List.drop_one, ↓splitB_true, ↓splitB_false, go_sem])
    | (refine AW_ret ?_; simp [-List.getD_eq_getElem?_getD, -List.drop_one, ↓splitB_true, ↓splitB_false, go_sem, Try.results30])
    | (intro hx; change AW _ _ _ _ _ _)
    | (intro hx; refine ⟨fun hs => ?_, fun hs => ?_⟩)
    | (refine ⟨fun hs => ?_, fun hs => ?_⟩)
    | (refine ⟨?_, fun hs => ?_⟩; change AW _ _ _ _ _ _)
    | (refine ⟨fun hs => ?_, ?_⟩; rotate_left; change AW _ _ _ _ _ _; rotate_left)))
  all_goals (first
    | rw [szOf_no (by omega)]
    | rw [szOf_yes (by omega)])
noncomputable def szBoolS_pureC : Con := .pure fun
  | [.list n_xs c_xs, .int .i64 left] => ((Is cB n_xs c_xs) ∧ (-1 ≤ left) ∧ (left ≤ 1048576), .int .i64 (szOf left (de cB c_xs).length))
  | _ => (False, .any)
attribute [go_sem] szBoolS_pureC
theorem szBoolS_pureC_ok : ConOk Try.prog 30 szBoolS_pureC := by
  refine ⟨callable Try.func30 (by decide) rfl, fun args h => ?_⟩
  revert h
  dsimp only
  split
  · intro h
    obtain ⟨⟨xs, rfl, rfl⟩, h0, h1⟩ := h
    try simp only [de_cat] at *
    exact ⟨szBoolS_pure xs _ h0 h1, by simp [go_sem]⟩
  · intro h
    exact h.elim
noncomputable def Γa1 : FuncId → Con := ext Γ3 30 szBoolS_pureC
attribute [go_sem] Γa1
theorem Γa1_ok : ∀ g, ConOk Try.prog g (Γa1 g) := ext_ok Γ3_ok szBoolS_pureC_ok

theorem szTransitionS_pure (xs : List Tr4) (left : Int) (h0 : -1 ≤ left) (h1 : left ≤ 1048576) : Pure Try.prog 31 [li cT xs, .int .i64 left] (.int .i64 (szOf left xs.length)) := by
  refine Pure.of_walk Try.func31 rfl (by simp [Try.f31]) (by simp [-List.drop_one, go_sem]) fun B hK => ?_
  (repeat' (first
    | refine AW_seq ?_
    | (refine AW_len 0 rfl fun hm => ?_); refine AW_region (id := 0) Γa1_ok [] (by kernel_rfl) ?_; simp  [-List.getD_eq_getElem?_getD, -List.drop_one, ↓splitB_true, ↓splitB_false, go_sem]
    | refine AW_region (id := 1) Γa1_ok [] (by kernel_rfl) ?_; simp  [-List.getD_eq_getElem?_getD, -List.drop_one, ↓splitB_true, ↓splitB_false, go_sem, wrap_sub h0 h1 hm]
    | refine AW_region (id := 2) Γa1_ok [] (by kernel_rfl) ?_; simp  [-List.getD_eq_getElem?_getD, -List.drop_one, ↓splitB_true, ↓splitB_false, go_sem]
    | refine AW_region (id := 3) Γa1_ok [] (by kernel_rfl) ?_; simp  [-List.getD_eq_getElem?_getD, -List.drop_one, ↓splitB_true, ↓splitB_false, go_sem]
    | refine AW_region (id := 4) Γa1_ok [] (by kernel_rfl) ?_; simp  [-List.getD_eq_getElem?_getD, -List.drop_one, ↓splitB_true, ↓splitB_false, go_sem]
    | refine AW_condA (c := .tmp 10) ?_; simp [-List.getD_eq_getElem?_getD, -List.drop_one, ↓splitB_true, ↓splitB_false, go_sem]; try (refine ⟨fun c10 => ?_, fun c10 => ?_⟩ <;> (try simp [B_iff, B_not] at c10))
    | (refine AW_block ?_)
    | (refine AW_exit ?_; simp [-List.getD_eq_getElem?_getD, -List.drop_one, ↓splitB_true, ↓splitB_false, go_sem])
    | (refine AW_skip ?_; simp [-List.getD_eq_getElem?_getD, -List.drop_one, ↓splitB_true, ↓splitB_false, go_sem])
    | (refine AW_ret ?_; simp [-List.getD_eq_getElem?_getD, -List.drop_one, ↓splitB_true, ↓splitB_false, go_sem, Try.results31])
    | (intro hx; change AW _ _ _ _ _ _)
    | (intro hx; refine ⟨fun hs => ?_, fun hs => ?_⟩)
    | (refine ⟨fun hs => ?_, fun hs => ?_⟩)
    | (refine ⟨?_, fun hs => ?_⟩; change AW _ _ _ _ _ _)
    | (refine ⟨fun hs => ?_, ?_⟩; rotate_left; change AW _ _ _ _ _ _; rotate_left)))
  all_goals (first
    | rw [szOf_no (by omega)]
    | rw [szOf_yes (by omega)])
noncomputable def szTransitionS_pureC : Con := .pure fun
  | [.list n_xs c_xs, .int .i64 left] => ((Is cT n_xs c_xs) ∧ (-1 ≤ left) ∧ (left ≤ 1048576), .int .i64 (szOf left (de cT c_xs).length))
  | _ => (False, .any)
attribute [go_sem] szTransitionS_pureC
theorem szTransitionS_pureC_ok : ConOk Try.prog 31 szTransitionS_pureC := by
  refine ⟨callable Try.func31 (by decide) rfl, fun args h => ?_⟩
  revert h
  dsimp only
  split
  · intro h
    obtain ⟨⟨xs, rfl, rfl⟩, h0, h1⟩ := h
    try simp only [de_cat] at *
    exact ⟨szTransitionS_pure xs _ h0 h1, by simp [go_sem]⟩
  · intro h
    exact h.elim
noncomputable def Γa2 : FuncId → Con := ext Γa1 31 szTransitionS_pureC
attribute [go_sem] Γa2
theorem Γa2_ok : ∀ g, ConOk Try.prog g (Γa2 g) := ext_ok Γa1_ok szTransitionS_pureC_ok

theorem toBoolS_pure (xs : List Bool) (h0 : xs.length ≤ 1048576) : Pure Try.prog 34 [li cB xs] (fr 1 cB xs) := by
  refine Pure.of_walk Try.func34 rfl (by simp [Try.f34]) (by simp [-List.drop_one, go_sem]) fun B hK => ?_
  (repeat' (first
    | refine AW_seq ?_
    | refine AW_region (id := 0) Γa2_ok [] (by kernel_rfl) ?_; simp  [-List.getD_eq_getElem?_getD, -List.drop_one, ↓splitB_true, ↓splitB_false, go_sem]
    | refine AW_region (id := 1) Γa2_ok [] (by kernel_rfl) ?_; simp  [-List.getD_eq_getElem?_getD, -List.drop_one, ↓splitB_true, ↓splitB_false, go_sem, (by omega : (xs.length : Int) ≤ 281474976710656), (by omega : (xs.length : Int) ≤ 9223372036854775807)]; try ((refine AW_mat 3 rfl fun b cp j _ hcp hj => ?_))
    | refine AW_region (id := 2) Γa2_ok [] (by kernel_rfl) ?_; simp  [-List.getD_eq_getElem?_getD, -List.drop_one, ↓splitB_true, ↓splitB_false, go_sem]
    | refine AW_region (id := 3) Γa2_ok [] (by kernel_rfl) ?_; simp  [-List.getD_eq_getElem?_getD, -List.drop_one, ↓splitB_true, ↓splitB_false, go_sem]
    | refine AW_region (id := 5) Γa2_ok [] (by kernel_rfl) ?_; simp  [-List.getD_eq_getElem?_getD, -List.drop_one, ↓splitB_true, ↓splitB_false, go_sem, c11, ne_nil c11, Nat.sub_pos_of_lt c11]
    | refine AW_region (id := 4) Γa2_ok [] (by kernel_rfl) ?_; simp  [-List.getD_eq_getElem?_getD, -List.drop_one, ↓splitB_true, ↓splitB_false, go_sem, wrapS (k := k) (by omega)]
    | ((obtain rfl : k = xs.length := by omega); refine AW_unmat 3 (b := b) (all := cat cB xs ++ List.replicate j .any) rfl (by simp [go_sem, fill_all]) (by omega) (by simp [cat_length]) (by simp [cat_length]; omega) ?_); refine AW_region (id := 6) Γa2_ok [] (by kernel_rfl) ?_; simp  [-List.getD_eq_getElem?_getD, -List.drop_one, ↓splitB_true, ↓splitB_false, go_sem]
    | refine AW_condA (c := .tmp 11) ?_; simp [-List.getD_eq_getElem?_getD, -List.drop_one, ↓splitB_true, ↓splitB_false, go_sem]; try (refine ⟨fun c11 => ?_, fun c11 => ?_⟩ <;> (try simp [B_iff, B_not] at c11))
    | (refine AW_block (id := 0) (AW_loop (ι := Nat) (fun k : Nat => ⟨(upd (upd (upd (fun _ => .any) 0 (li cB xs)) 3 (.sl b 1 0 xs.length cp)) 4 (.int .i64 k)), upd (fun _ => none) b (some (fillC cB [.bool false] 1 xs k (List.replicate j .any)))⟩) (fun k => k ≤ xs.length) (fun k => xs.length - k) (0) ?_ ?_ ?_); exact Nat.zero_le _; ((repeat' (first | exact sub_noneH (by assumption) | exact sub_none | refine sub_upd ?_ ?_ | refine sub_noneE ?_)) <;> simp [-List.getD_eq_getElem?_getD, -List.drop_one, ↓splitB_true, ↓splitB_false, go_sem, fill_zero]); rintro k hk)
    | (refine ⟨k + 1, by omega, by first | omega | (simp; done) | (simp; omega), ?_⟩; ((repeat' (first | exact sub_noneH (by assumption) | exact sub_none | refine sub_upd ?_ ?_ | refine sub_noneE ?_)) <;> simp [-List.getD_eq_getElem?_getD, -List.drop_one, ↓splitB_true, ↓splitB_false, go_sem, fill_zero]))
    | (refine AW_block ?_)
    | (refine AW_exit ?_; simp [-List.getD_eq_getElem?_getD, -List.drop_one, ↓splitB_true, ↓splitB_false, go_sem])
    | (refine AW_skip ?_; simp [-List.getD_eq_getElem?_getD, -List.drop_one, ↓splitB_true, ↓splitB_false, go_sem])
    | (refine AW_ret ?_; simp [-List.getD_eq_getElem?_getD, -List.drop_one, ↓splitB_true, ↓splitB_false, go_sem, Try.results34])
    | (intro hx; change AW _ _ _ _ _ _)
    | (intro hx; refine ⟨fun hs => ?_, fun hs => ?_⟩)
    | (refine ⟨fun hs => ?_, fun hs => ?_⟩)
    | (refine ⟨?_, fun hs => ?_⟩; change AW _ _ _ _ _ _)
    | (refine ⟨fun hs => ?_, ?_⟩; rotate_left; change AW _ _ _ _ _ _; rotate_left)))
noncomputable def toBoolS_pureC : Con := .pure fun
  | [.list n_xs c_xs] => ((Is cB n_xs c_xs) ∧ ((de cB c_xs).length ≤ 1048576), fr 1 cB (de cB c_xs))
  | _ => (False, .any)
attribute [go_sem] toBoolS_pureC
theorem toBoolS_pureC_ok : ConOk Try.prog 34 toBoolS_pureC := by
  refine ⟨callable Try.func34 (by decide) rfl, fun args h => ?_⟩
  revert h
  dsimp only
  split
  · intro h
    obtain ⟨⟨xs, rfl, rfl⟩, h0⟩ := h
    try simp only [de_cat] at *
    exact ⟨toBoolS_pure xs h0, by simp [go_sem]⟩
  · intro h
    exact h.elim
noncomputable def Γa3 : FuncId → Con := ext Γa2 34 toBoolS_pureC
attribute [go_sem] Γa3
theorem Γa3_ok : ∀ g, ConOk Try.prog g (Γa3 g) := ext_ok Γa2_ok toBoolS_pureC_ok

theorem toTransition_pure (p : Int) (q : Int) (r : Int) (s : Int)  : Pure Try.prog 60 [.st [.int .i64 p, .int .i64 q, .int .i64 r, .int .i64 s]] (.st [.int .i64 p, .int .i64 q, .int .i64 r, .int .i64 s]) := by
  refine Pure.of_walk Try.func60 rfl (by simp [Try.f60]) (by simp [-List.drop_one, go_sem]) fun B hK => ?_
  (repeat' (first
    | refine AW_seq ?_
    | refine AW_region (id := 0) Γa3_ok [] (by kernel_rfl) ?_; simp  [-List.getD_eq_getElem?_getD, -List.drop_one, ↓splitB_true, ↓splitB_false, go_sem]; try (refine AW_data hK 1 ?_; simp [go_sem])
    | refine AW_region (id := 1) Γa3_ok [] (by kernel_rfl) ?_; simp  [-List.getD_eq_getElem?_getD, -List.drop_one, ↓splitB_true, ↓splitB_false, go_sem]; try (refine AW_matBox 3 rfl fun b3 hb3 => ?_)
    | refine AW_region (id := 2) Γa3_ok [] (by kernel_rfl) ?_; simp  [-List.getD_eq_getElem?_getD, -List.drop_one, ↓splitB_true, ↓splitB_false, go_sem]
    | refine AW_region (id := 3) Γa3_ok [] (by kernel_rfl) ?_; simp  [-List.getD_eq_getElem?_getD, -List.drop_one, ↓splitB_true, ↓splitB_false, go_sem]
    | refine AW_region (id := 4) Γa3_ok [] (by kernel_rfl) ?_; simp  [-List.getD_eq_getElem?_getD, -List.drop_one, ↓splitB_true, ↓splitB_false, go_sem]
    | refine AW_region (id := 5) Γa3_ok [] (by kernel_rfl) ?_; simp  [-List.getD_eq_getElem?_getD, -List.drop_one, ↓splitB_true, ↓splitB_false, go_sem]
    | refine AW_region (id := 6) Γa3_ok [] (by kernel_rfl) ?_; simp  [-List.getD_eq_getElem?_getD, -List.drop_one, ↓splitB_true, ↓splitB_false, go_sem]
    | (refine AW_block ?_)
    | (refine AW_exit ?_; simp [-List.getD_eq_getElem?_getD, -List.drop_one, ↓splitB_true, ↓splitB_false, go_sem])
    | (refine AW_skip ?_; simp [-List.getD_eq_getElem?_getD, -List.drop_one, ↓splitB_true, ↓splitB_false, go_sem])
    | (refine AW_ret ?_; simp [-List.getD_eq_getElem?_getD, -List.drop_one, ↓splitB_true, ↓splitB_false, go_sem, Try.results60])
    | (intro hx; change AW _ _ _ _ _ _)
    | (intro hx; refine ⟨fun hs => ?_, fun hs => ?_⟩)
    | (refine ⟨fun hs => ?_, fun hs => ?_⟩)
    | (refine ⟨?_, fun hs => ?_⟩; change AW _ _ _ _ _ _)
    | (refine ⟨fun hs => ?_, ?_⟩; rotate_left; change AW _ _ _ _ _ _; rotate_left)))
noncomputable def toTransition_pureC : Con := .pure fun
  | [.st [.int .i64 p, .int .i64 q, .int .i64 r, .int .i64 s]] => (True, .st [.int .i64 p, .int .i64 q, .int .i64 r, .int .i64 s])
  | _ => (False, .any)
attribute [go_sem] toTransition_pureC
theorem toTransition_pureC_ok : ConOk Try.prog 60 toTransition_pureC := by
  refine ⟨callable Try.func60 (by decide) rfl, fun args h => ?_⟩
  revert h
  dsimp only
  split
  · intro h
    skip
    skip
    exact ⟨toTransition_pure _ _ _ _, by simp [go_sem]⟩
  · intro h
    exact h.elim
noncomputable def Γa4 : FuncId → Con := ext Γa3 60 toTransition_pureC
attribute [go_sem] Γa4
theorem Γa4_ok : ∀ g, ConOk Try.prog g (Γa4 g) := ext_ok Γa3_ok toTransition_pureC_ok

theorem toTransitionS_pure (xs : List Tr4) (h0 : xs.length ≤ 1048576) : Pure Try.prog 35 [li cT xs] (fr 4 cT xs) := by
  refine Pure.of_walk Try.func35 rfl (by simp [Try.f35]) (by simp [-List.drop_one, go_sem]) fun B hK => ?_
  (repeat' (first
    | refine AW_seq ?_
    | refine AW_region (id := 0) Γa4_ok [] (by kernel_rfl) ?_; simp  [-List.getD_eq_getElem?_getD, -List.drop_one, ↓splitB_true, ↓splitB_false, go_sem]
    | refine AW_region (id := 1) Γa4_ok [] (by kernel_rfl) ?_; simp  [-List.getD_eq_getElem?_getD, -List.drop_one, ↓splitB_true, ↓splitB_false, go_sem, (by omega : 32 * (xs.length : Int) ≤ 281474976710656), (by omega : (xs.length : Int) ≤ 9223372036854775807)]; try ((refine AW_mat 3 rfl fun b cp j _ hcp hj => ?_))
    | refine AW_region (id := 2) Γa4_ok [] (by kernel_rfl) ?_; simp  [-List.getD_eq_getElem?_getD, -List.drop_one, ↓splitB_true, ↓splitB_false, go_sem]
    | refine AW_region (id := 3) Γa4_ok [] (by kernel_rfl) ?_; simp  [-List.getD_eq_getElem?_getD, -List.drop_one, ↓splitB_true, ↓splitB_false, go_sem]
    | refine AW_region (id := 5) Γa4_ok [] (by kernel_rfl) ?_; simp  [-List.getD_eq_getElem?_getD, -List.drop_one, ↓splitB_true, ↓splitB_false, go_sem, c11, ne_nil c11, Nat.sub_pos_of_lt c11]
    | refine AW_region (id := 4) Γa4_ok [] (by kernel_rfl) ?_; simp  [-List.getD_eq_getElem?_getD, -List.drop_one, ↓splitB_true, ↓splitB_false, go_sem, wrapS (k := k) (by omega)]
    | ((obtain rfl : k = xs.length := by omega); refine AW_unmat 3 (b := b) (all := cat cT xs ++ List.replicate j .any) rfl (by simp [go_sem, fill_all]) (by omega) (by simp [cat_length]) (by simp [cat_length]; omega) ?_); refine AW_region (id := 6) Γa4_ok [] (by kernel_rfl) ?_; simp  [-List.getD_eq_getElem?_getD, -List.drop_one, ↓splitB_true, ↓splitB_false, go_sem]
    | refine AW_condA (c := .tmp 11) ?_; simp [-List.getD_eq_getElem?_getD, -List.drop_one, ↓splitB_true, ↓splitB_false, go_sem]; try (refine ⟨fun c11 => ?_, fun c11 => ?_⟩ <;> (try simp [B_iff, B_not] at c11))
    | (refine AW_block (id := 0) (AW_loop (ι := Nat) (fun k : Nat => ⟨(upd (upd (upd (fun _ => .any) 0 (li cT xs)) 3 (.sl b 4 0 xs.length cp)) 4 (.int .i64 k)), upd (fun _ => none) b (some (fillC cT [.int .i64 0, .int .i64 0, .int .i64 0, .int .i64 0] 4 xs k (List.replicate j .any)))⟩) (fun k => k ≤ xs.length) (fun k => xs.length - k) (0) ?_ ?_ ?_); exact Nat.zero_le _; ((repeat' (first | exact sub_noneH (by assumption) | exact sub_none | refine sub_upd ?_ ?_ | refine sub_noneE ?_)) <;> simp [-List.getD_eq_getElem?_getD, -List.drop_one, ↓splitB_true, ↓splitB_false, go_sem, fill_zero]); rintro k hk)
    | (refine ⟨k + 1, by omega, by first | omega | (simp; done) | (simp; omega), ?_⟩; ((repeat' (first | exact sub_noneH (by assumption) | exact sub_none | refine sub_upd ?_ ?_ | refine sub_noneE ?_)) <;> simp [-List.getD_eq_getElem?_getD, -List.drop_one, ↓splitB_true, ↓splitB_false, go_sem, fill_zero]))
    | (refine AW_block ?_)
    | (refine AW_exit ?_; simp [-List.getD_eq_getElem?_getD, -List.drop_one, ↓splitB_true, ↓splitB_false, go_sem])
    | (refine AW_skip ?_; simp [-List.getD_eq_getElem?_getD, -List.drop_one, ↓splitB_true, ↓splitB_false, go_sem])
    | (refine AW_ret ?_; simp [-List.getD_eq_getElem?_getD, -List.drop_one, ↓splitB_true, ↓splitB_false, go_sem, Try.results35])
    | (intro hx; change AW _ _ _ _ _ _)
    | (intro hx; refine ⟨fun hs => ?_, fun hs => ?_⟩)
    | (refine ⟨fun hs => ?_, fun hs => ?_⟩)
    | (refine ⟨?_, fun hs => ?_⟩; change AW _ _ _ _ _ _)
    | (refine ⟨fun hs => ?_, ?_⟩; rotate_left; change AW _ _ _ _ _ _; rotate_left)))
noncomputable def toTransitionS_pureC : Con := .pure fun
  | [.list n_xs c_xs] => ((Is cT n_xs c_xs) ∧ ((de cT c_xs).length ≤ 1048576), fr 4 cT (de cT c_xs))
  | _ => (False, .any)
attribute [go_sem] toTransitionS_pureC
theorem toTransitionS_pureC_ok : ConOk Try.prog 35 toTransitionS_pureC := by
  refine ⟨callable Try.func35 (by decide) rfl, fun args h => ?_⟩
  revert h
  dsimp only
  split
  · intro h
    obtain ⟨⟨xs, rfl, rfl⟩, h0⟩ := h
    try simp only [de_cat] at *
    exact ⟨toTransitionS_pure xs h0, by simp [go_sem]⟩
  · intro h
    exact h.elim
noncomputable def Γa5 : FuncId → Con := ext Γa4 35 toTransitionS_pureC
attribute [go_sem] Γa5
theorem Γa5_ok : ∀ g, ConOk Try.prog g (Γa5 g) := ext_ok Γa4_ok toTransitionS_pureC_ok

theorem eqBoolS_pure (xs : List Bool) (ys : List Bool)  : Pure Try.prog 21 [li cB xs, li cB ys] (.bool (decide (xs = ys))) := by
  refine Pure.of_walk Try.func21 rfl (by simp [Try.f21]) (by simp [-List.drop_one, go_sem]) fun B hK => ?_
  (repeat' (first
    | refine AW_seq ?_
    | (refine AW_len 0 rfl fun hm => ?_); refine AW_region (id := 0) Γa5_ok [] (by kernel_rfl) ?_; simp  [-List.getD_eq_getElem?_getD, -List.drop_one, ↓splitB_true, ↓splitB_false, go_sem]
    | refine AW_region (id := 1) Γa5_ok [] (by kernel_rfl) ?_; simp  [-List.getD_eq_getElem?_getD, -List.drop_one, ↓splitB_true, ↓splitB_false, go_sem]
    | refine AW_region (id := 2) Γa5_ok [] (by kernel_rfl) ?_; simp  [-List.getD_eq_getElem?_getD, -List.drop_one, ↓splitB_true, ↓splitB_false, go_sem]
    | refine AW_region (id := 3) Γa5_ok [] (by kernel_rfl) ?_; simp  [-List.getD_eq_getElem?_getD, -List.drop_one, ↓splitB_true, ↓splitB_false, go_sem]
    | refine AW_region (id := 4) Γa5_ok [] (by kernel_rfl) ?_; simp  [-List.getD_eq_getElem?_getD, -List.drop_one, ↓splitB_true, ↓splitB_false, go_sem]
    | (have cy : k < ys.length := by omega); refine AW_region_draw (id := 6) Γa5_ok mixed [] [5] (by kernel_rfl) (by kernel_rfl) (by simp [-List.getD_eq_getElem?_getD, -List.drop_one, ↓splitB_true, ↓splitB_false, go_sem, c14, ne_nil c14, Nat.sub_pos_of_lt c14, cy, ne_nil cy, Nat.sub_pos_of_lt cy]) ?_; simp  [-List.getD_eq_getElem?_getD, -List.drop_one, ↓splitB_true, ↓splitB_false, go_sem, c14, ne_nil c14, Nat.sub_pos_of_lt c14, cy, ne_nil cy, Nat.sub_pos_of_lt cy]
    | refine AW_region (id := 7) Γa5_ok [] (by kernel_rfl) ?_; simp  [-List.getD_eq_getElem?_getD, -List.drop_one, ↓splitB_true, ↓splitB_false, go_sem]
    | refine AW_region (id := 5) Γa5_ok [] (by kernel_rfl) ?_; simp  [-List.getD_eq_getElem?_getD, -List.drop_one, ↓splitB_true, ↓splitB_false, go_sem, wrapS (k := k) (by omega)]
    | refine AW_region (id := 8) Γa5_ok [] (by kernel_rfl) ?_; simp  [-List.getD_eq_getElem?_getD, -List.drop_one, ↓splitB_true, ↓splitB_false, go_sem]
    | refine AW_condA (c := .tmp 10) ?_; simp [-List.getD_eq_getElem?_getD, -List.drop_one, ↓splitB_true, ↓splitB_false, go_sem]; try (refine ⟨fun c10 => ?_, fun c10 => ?_⟩ <;> (try simp [B_iff, B_not] at c10))
    | refine AW_condA (c := .tmp 14) ?_; simp [-List.getD_eq_getElem?_getD, -List.drop_one, ↓splitB_true, ↓splitB_false, go_sem]; try (refine ⟨fun c14 => ?_, fun c14 => ?_⟩ <;> (try simp [B_iff, B_not] at c14))
    | refine AW_condA (c := .tmp 25) ?_; simp [-List.getD_eq_getElem?_getD, -List.drop_one, ↓splitB_true, ↓splitB_false, go_sem]; try (refine ⟨fun c25 => ?_, fun c25 => ?_⟩ <;> (try simp [B_iff, B_not] at c25))
    | (refine AW_block (id := 0) (AW_loop (ι := Nat) (fun k : Nat => ⟨(upd (upd (upd (fun _ => .any) 0 (li cB xs)) 1 (li cB ys)) 5 (.int .i64 k)), fun _ => none⟩) (fun k => k ≤ xs.length ∧ NoneTill (neAt xs ys) k) (fun k => xs.length - k) (0) ?_ ?_ ?_); exact ⟨Nat.zero_le _, .zero _⟩; ((repeat' (first | exact sub_noneH (by assumption) | exact sub_none | refine sub_upd ?_ ?_ | refine sub_noneE ?_)) <;> simp [-List.getD_eq_getElem?_getD, -List.drop_one, ↓splitB_true, ↓splitB_false, go_sem]); rintro k ⟨hk, ht⟩)
    | (refine ⟨k + 1, ⟨by omega, ht.succ (by simp [neAt]; first | exact c25 | (apply Prod.ext <;> simp_all; done) | (simp_all [Prod.ext_iff]; done) | simp_all)⟩, by first | omega | (simp; done) | (simp; omega), ?_⟩; ((repeat' (first | exact sub_noneH (by assumption) | exact sub_none | refine sub_upd ?_ ?_ | refine sub_noneE ?_)) <;> simp [-List.getD_eq_getElem?_getD, -List.drop_one, ↓splitB_true, ↓splitB_false, go_sem]))
    | (refine AW_block ?_)
    | (refine AW_exit ?_; simp [-List.getD_eq_getElem?_getD, -List.drop_one, ↓splitB_true, ↓splitB_false, go_sem])
    | (refine AW_skip ?_; simp [-List.getD_eq_getElem?_getD, -List.drop_one, ↓splitB_true, ↓splitB_false, go_sem])
    | (refine AW_ret ?_; simp [-List.getD_eq_getElem?_getD, -List.drop_one, ↓splitB_true, ↓splitB_false, go_sem, Try.results21])
    | (intro hx; change AW _ _ _ _ _ _)
    | (intro hx; refine ⟨fun hs => ?_, fun hs => ?_⟩)
    | (refine ⟨fun hs => ?_, fun hs => ?_⟩)
    | (refine ⟨?_, fun hs => ?_⟩; change AW _ _ _ _ _ _)
    | (refine ⟨fun hs => ?_, ?_⟩; rotate_left; change AW _ _ _ _ _ _; rotate_left)))
  all_goals (first
    | (rintro rfl; simp at c10; done)
    | (rintro rfl; simp at c25; done)
    | exact eq_of_none (by omega) ht (by omega))
noncomputable def eqBoolS_pureC : Con := .pure fun
  | [.list n_xs c_xs, .list n_ys c_ys] => ((Is cB n_xs c_xs) ∧ (Is cB n_ys c_ys), .bool (decide ((de cB c_xs) = (de cB c_ys))))
  | _ => (False, .any)
attribute [go_sem] eqBoolS_pureC
theorem eqBoolS_pureC_ok : ConOk Try.prog 21 eqBoolS_pureC := by
  refine ⟨callable Try.func21 (by decide) rfl, fun args h => ?_⟩
  revert h
  dsimp only
  split
  · intro h
    obtain ⟨⟨xs, rfl, rfl⟩, ⟨ys, rfl, rfl⟩⟩ := h
    try simp only [de_cat] at *
    exact ⟨eqBoolS_pure xs ys, by simp [go_sem]⟩
  · intro h
    exact h.elim
noncomputable def Γa6 : FuncId → Con := ext Γa5 21 eqBoolS_pureC
attribute [go_sem] Γa6
theorem Γa6_ok : ∀ g, ConOk Try.prog g (Γa6 g) := ext_ok Γa5_ok eqBoolS_pureC_ok

theorem eqTransition_pure (p : Int) (q : Int) (r : Int) (s : Int) (p' : Int) (q' : Int) (r' : Int) (s' : Int)  : Pure Try.prog 61 [.st [.int .i64 p, .int .i64 q, .int .i64 r, .int .i64 s], .st [.int .i64 p', .int .i64 q', .int .i64 r', .int .i64 s']] (.bool (decide (p = p') && decide (q = q') && decide (r = r') && decide (s = s'))) := by
  refine Pure.of_walk Try.func61 rfl (by simp [Try.f61]) (by simp [-List.drop_one, go_sem]) fun B hK => ?_
  (repeat' (first
    | refine AW_seq ?_
    | refine AW_region (id := 0) Γa6_ok [] (by kernel_rfl) ?_; simp  [-List.getD_eq_getElem?_getD, -List.drop_one, ↓splitB_true, ↓splitB_false, go_sem]; try (refine AW_data hK 2 ?_; simp [go_sem]; refine AW_data hK 3 ?_; simp [go_sem])
    | refine AW_region (id := 1) Γa6_ok [] (by kernel_rfl) ?_; simp  [-List.getD_eq_getElem?_getD, -List.drop_one, ↓splitB_true, ↓splitB_false, go_sem]
    | refine AW_region (id := 2) Γa6_ok [] (by kernel_rfl) ?_; simp  [-List.getD_eq_getElem?_getD, -List.drop_one, ↓splitB_true, ↓splitB_false, go_sem]
    | refine AW_region (id := 3) Γa6_ok [] (by kernel_rfl) ?_; simp  [-List.getD_eq_getElem?_getD, -List.drop_one, ↓splitB_true, ↓splitB_false, go_sem]
    | refine AW_region (id := 4) Γa6_ok [] (by kernel_rfl) ?_; simp  [-List.getD_eq_getElem?_getD, -List.drop_one, ↓splitB_true, ↓splitB_false, go_sem]
    | refine AW_region (id := 5) Γa6_ok [] (by kernel_rfl) ?_; simp  [-List.getD_eq_getElem?_getD, -List.drop_one, ↓splitB_true, ↓splitB_false, go_sem]
    | refine AW_region (id := 6) Γa6_ok [] (by kernel_rfl) ?_; simp  [-List.getD_eq_getElem?_getD, -List.drop_one, ↓splitB_true, ↓splitB_false, go_sem]
    | refine AW_region (id := 7) Γa6_ok [] (by kernel_rfl) ?_; simp  [-List.getD_eq_getElem?_getD, -List.drop_one, ↓splitB_true, ↓splitB_false, go_sem]
    | refine AW_region (id := 8) Γa6_ok [] (by kernel_rfl) ?_; simp  [-List.getD_eq_getElem?_getD, -List.drop_one, ↓splitB_true, ↓splitB_false, go_sem]
    | refine AW_region (id := 9) Γa6_ok [] (by kernel_rfl) ?_; simp  [-List.getD_eq_getElem?_getD, -List.drop_one, ↓splitB_true, ↓splitB_false, go_sem]
    | refine AW_condA (c := .tmp 9) ?_; simp [-List.getD_eq_getElem?_getD, -List.drop_one, ↓splitB_true, ↓splitB_false, go_sem]; try (refine ⟨fun c9 => ?_, fun c9 => ?_⟩ <;> (try simp [B_iff, B_not] at c9))
    | refine AW_condA (c := .tmp 14) ?_; simp [-List.getD_eq_getElem?_getD, -List.drop_one, ↓splitB_true, ↓splitB_false, go_sem]; try (refine ⟨fun c14 => ?_, fun c14 => ?_⟩ <;> (try simp [B_iff, B_not] at c14))
    | refine AW_condA (c := .tmp 19) ?_; simp [-List.getD_eq_getElem?_getD, -List.drop_one, ↓splitB_true, ↓splitB_false, go_sem]; try (refine ⟨fun c19 => ?_, fun c19 => ?_⟩ <;> (try simp [B_iff, B_not] at c19))
    | refine AW_condA (c := .tmp 24) ?_; simp [-List.getD_eq_getElem?_getD, -List.drop_one, ↓splitB_true, ↓splitB_false, go_sem]; try (refine ⟨fun c24 => ?_, fun c24 => ?_⟩ <;> (try simp [B_iff, B_not] at c24))
    | (refine AW_block ?_)
    | (refine AW_exit ?_; simp [-List.getD_eq_getElem?_getD, -List.drop_one, ↓splitB_true, ↓splitB_false, go_sem])
    | (refine AW_skip ?_; simp [-List.getD_eq_getElem?_getD, -List.drop_one, ↓splitB_true, ↓splitB_false, go_sem])
    | (refine AW_ret ?_; simp [-List.getD_eq_getElem?_getD, -List.drop_one, ↓splitB_true, ↓splitB_false, go_sem, Try.results61])
    | (intro hx; change AW _ _ _ _ _ _)
    | (intro hx; refine ⟨fun hs => ?_, fun hs => ?_⟩)
    | (refine ⟨fun hs => ?_, fun hs => ?_⟩)
    | (refine ⟨?_, fun hs => ?_⟩; change AW _ _ _ _ _ _)
    | (refine ⟨fun hs => ?_, ?_⟩; rotate_left; change AW _ _ _ _ _ _; rotate_left)))
  all_goals (first
    | (simp_all; done)
    | (intros; simp_all; done))
noncomputable def eqTransition_pureC : Con := .pure fun
  | [.st [.int .i64 p, .int .i64 q, .int .i64 r, .int .i64 s], .st [.int .i64 p', .int .i64 q', .int .i64 r', .int .i64 s']] => (True, .bool (decide (p = p') && decide (q = q') && decide (r = r') && decide (s = s')))
  | _ => (False, .any)
attribute [go_sem] eqTransition_pureC
theorem eqTransition_pureC_ok : ConOk Try.prog 61 eqTransition_pureC := by
  refine ⟨callable Try.func61 (by decide) rfl, fun args h => ?_⟩
  revert h
  dsimp only
  split
  · intro h
    skip
    skip
    exact ⟨eqTransition_pure _ _ _ _ _ _ _ _, by simp [go_sem]⟩
  · intro h
    exact h.elim
noncomputable def Γa7 : FuncId → Con := ext Γa6 61 eqTransition_pureC
attribute [go_sem] Γa7
theorem Γa7_ok : ∀ g, ConOk Try.prog g (Γa7 g) := ext_ok Γa6_ok eqTransition_pureC_ok

theorem eqTransitionS_pure (xs : List Tr4) (ys : List Tr4)  : Pure Try.prog 40 [li cT xs, li cT ys] (.bool (decide (xs = ys))) := by
  refine Pure.of_walk Try.func40 rfl (by simp [Try.f40]) (by simp [-List.drop_one, go_sem]) fun B hK => ?_
  (repeat' (first
    | refine AW_seq ?_
    | (refine AW_len 0 rfl fun hm => ?_); refine AW_region (id := 0) Γa7_ok [] (by kernel_rfl) ?_; simp  [-List.getD_eq_getElem?_getD, -List.drop_one, ↓splitB_true, ↓splitB_false, go_sem]
    | refine AW_region (id := 1) Γa7_ok [] (by kernel_rfl) ?_; simp  [-List.getD_eq_getElem?_getD, -List.drop_one, ↓splitB_true, ↓splitB_false, go_sem]
    | refine AW_region (id := 2) Γa7_ok [] (by kernel_rfl) ?_; simp  [-List.getD_eq_getElem?_getD, -List.drop_one, ↓splitB_true, ↓splitB_false, go_sem]
    | refine AW_region (id := 3) Γa7_ok [] (by kernel_rfl) ?_; simp  [-List.getD_eq_getElem?_getD, -List.drop_one, ↓splitB_true, ↓splitB_false, go_sem]
    | refine AW_region (id := 4) Γa7_ok [] (by kernel_rfl) ?_; simp  [-List.getD_eq_getElem?_getD, -List.drop_one, ↓splitB_true, ↓splitB_false, go_sem]
    | (have cy : k < ys.length := by omega); refine AW_region_draw (id := 6) Γa7_ok mixed [] [5] (by kernel_rfl) (by kernel_rfl) (by simp [-List.getD_eq_getElem?_getD, -List.drop_one, ↓splitB_true, ↓splitB_false, go_sem, c14, ne_nil c14, Nat.sub_pos_of_lt c14, cy, ne_nil cy, Nat.sub_pos_of_lt cy]) ?_; simp  [-List.getD_eq_getElem?_getD, -List.drop_one, ↓splitB_true, ↓splitB_false, go_sem, c14, ne_nil c14, Nat.sub_pos_of_lt c14, cy, ne_nil cy, Nat.sub_pos_of_lt cy]
    | refine AW_region (id := 7) Γa7_ok [] (by kernel_rfl) ?_; simp  [-List.getD_eq_getElem?_getD, -List.drop_one, ↓splitB_true, ↓splitB_false, go_sem]
    | refine AW_region (id := 5) Γa7_ok [] (by kernel_rfl) ?_; simp  [-List.getD_eq_getElem?_getD, -List.drop_one, ↓splitB_true, ↓splitB_false, go_sem, wrapS (k := k) (by omega)]
    | refine AW_region (id := 8) Γa7_ok [] (by kernel_rfl) ?_; simp  [-List.getD_eq_getElem?_getD, -List.drop_one, ↓splitB_true, ↓splitB_false, go_sem]
    | refine AW_condA (c := .tmp 10) ?_; simp [-List.getD_eq_getElem?_getD, -List.drop_one, ↓splitB_true, ↓splitB_false, go_sem]; try (refine ⟨fun c10 => ?_, fun c10 => ?_⟩ <;> (try simp [B_iff, B_not] at c10))
    | refine AW_condA (c := .tmp 14) ?_; simp [-List.getD_eq_getElem?_getD, -List.drop_one, ↓splitB_true, ↓splitB_false, go_sem]; try (refine ⟨fun c14 => ?_, fun c14 => ?_⟩ <;> (try simp [B_iff, B_not] at c14))
    | refine AW_condA (c := .tmp 26) ?_; simp [-List.getD_eq_getElem?_getD, -List.drop_one, ↓splitB_true, ↓splitB_false, go_sem]; try (refine ⟨fun c26 => ?_, fun c26 => ?_⟩ <;> (try simp [B_iff, B_not] at c26))
    | (refine AW_block (id := 0) (AW_loop (ι := Nat) (fun k : Nat => ⟨(upd (upd (upd (fun _ => .any) 0 (li cT xs)) 1 (li cT ys)) 5 (.int .i64 k)), fun _ => none⟩) (fun k => k ≤ xs.length ∧ NoneTill (neAt xs ys) k) (fun k => xs.length - k) (0) ?_ ?_ ?_); exact ⟨Nat.zero_le _, .zero _⟩; ((repeat' (first | exact sub_noneH (by assumption) | exact sub_none | refine sub_upd ?_ ?_ | refine sub_noneE ?_)) <;> simp [-List.getD_eq_getElem?_getD, -List.drop_one, ↓splitB_true, ↓splitB_false, go_sem]); rintro k ⟨hk, ht⟩)
    | (refine ⟨k + 1, ⟨by omega, ht.succ (by simp [neAt]; first | exact c26 | (apply Prod.ext <;> simp_all; done) | (simp_all [Prod.ext_iff]; done) | simp_all)⟩, by first | omega | (simp; done) | (simp; omega), ?_⟩; ((repeat' (first | exact sub_noneH (by assumption) | exact sub_none | refine sub_upd ?_ ?_ | refine sub_noneE ?_)) <;> simp [-List.getD_eq_getElem?_getD, -List.drop_one, ↓splitB_true, ↓splitB_false, go_sem]))
    | (refine AW_block ?_)
    | (refine AW_exit ?_; simp [-List.getD_eq_getElem?_getD, -List.drop_one, ↓splitB_true, ↓splitB_false, go_sem])
    | (refine AW_skip ?_; simp [-List.getD_eq_getElem?_getD, -List.drop_one, ↓splitB_true, ↓splitB_false, go_sem])
    | (refine AW_ret ?_; simp [-List.getD_eq_getElem?_getD, -List.drop_one, ↓splitB_true, ↓splitB_false, go_sem, Try.results40])
    | (intro hx; change AW _ _ _ _ _ _)
    | (intro hx; refine ⟨fun hs => ?_, fun hs => ?_⟩)
    | (refine ⟨fun hs => ?_, fun hs => ?_⟩)
    | (refine ⟨?_, fun hs => ?_⟩; change AW _ _ _ _ _ _)
    | (refine ⟨fun hs => ?_, ?_⟩; rotate_left; change AW _ _ _ _ _ _; rotate_left)))
  all_goals (first
    | (rintro rfl; simp at c10; done)
    | (rintro rfl; simp at c26; done)
    | exact eq_of_none (by omega) ht (by omega))
noncomputable def eqTransitionS_pureC : Con := .pure fun
  | [.list n_xs c_xs, .list n_ys c_ys] => ((Is cT n_xs c_xs) ∧ (Is cT n_ys c_ys), .bool (decide ((de cT c_xs) = (de cT c_ys))))
  | _ => (False, .any)
attribute [go_sem] eqTransitionS_pureC
theorem eqTransitionS_pureC_ok : ConOk Try.prog 40 eqTransitionS_pureC := by
  refine ⟨callable Try.func40 (by decide) rfl, fun args h => ?_⟩
  revert h
  dsimp only
  split
  · intro h
    obtain ⟨⟨xs, rfl, rfl⟩, ⟨ys, rfl, rfl⟩⟩ := h
    try simp only [de_cat] at *
    exact ⟨eqTransitionS_pure xs ys, by simp [go_sem]⟩
  · intro h
    exact h.elim
noncomputable def Γa8 : FuncId → Con := ext Γa7 40 eqTransitionS_pureC
attribute [go_sem] Γa8
theorem Γa8_ok : ∀ g, ConOk Try.prog g (Γa8 g) := ext_ok Γa7_ok eqTransitionS_pureC_ok

theorem szAutomaton_pure (a : List Int) (b : List Bool) (c : List Tr4) (left : Int) (h0 : -1 ≤ left) (h1 : left ≤ 1048576) : Pure Try.prog 8 [.st [li cI a, li cB b, li cT c], .int .i64 left] (.int .i64 (szOf left (a.length + b.length + c.length))) := by
  refine Pure.of_walk Try.func8 rfl (by simp [Try.f8]) (by simp [-List.drop_one, go_sem]) fun B hK => ?_
  (repeat' (first
    | refine AW_seq ?_
    | refine AW_region (id := 0) Γa8_ok [] (by kernel_rfl) ?_; simp  [-List.getD_eq_getElem?_getD, -List.drop_one, ↓splitB_true, ↓splitB_false, go_sem, szOf_lo h0, szOf_hi h1, szOf_szOf h0]; try (refine AW_data hK 2 ?_; simp [go_sem])
    | refine AW_region (id := 1) Γa8_ok [] (by kernel_rfl) ?_; simp  [-List.getD_eq_getElem?_getD, -List.drop_one, ↓splitB_true, ↓splitB_false, go_sem, h0, h1, szOf_lo h0, szOf_hi h1, szOf_szOf h0]
    | refine AW_region (id := 2) Γa8_ok [] (by kernel_rfl) ?_; simp  [-List.getD_eq_getElem?_getD, -List.drop_one, ↓splitB_true, ↓splitB_false, go_sem, szOf_lo h0, szOf_hi h1, szOf_szOf h0]
    | refine AW_region (id := 3) Γa8_ok [] (by kernel_rfl) ?_; simp  [-List.getD_eq_getElem?_getD, -List.drop_one, ↓splitB_true, ↓splitB_false, go_sem, szOf_lo h0, szOf_hi h1, szOf_szOf h0]
    | refine AW_region (id := 4) Γa8_ok [] (by kernel_rfl) ?_; simp  [-List.getD_eq_getElem?_getD, -List.drop_one, ↓splitB_true, ↓splitB_false, go_sem, szOf_lo h0, szOf_hi h1, szOf_szOf h0]
    | refine AW_region (id := 5) Γa8_ok [] (by kernel_rfl) ?_; simp  [-List.getD_eq_getElem?_getD, -List.drop_one, ↓splitB_true, ↓splitB_false, go_sem, szOf_lo h0, szOf_hi h1, szOf_szOf h0]
    | refine AW_region (id := 6) Γa8_ok [] (by kernel_rfl) ?_; simp  [-List.getD_eq_getElem?_getD, -List.drop_one, ↓splitB_true, ↓splitB_false, go_sem, szOf_lo h0, szOf_hi h1, szOf_szOf h0]
    | refine AW_region (id := 7) Γa8_ok [] (by kernel_rfl) ?_; simp  [-List.getD_eq_getElem?_getD, -List.drop_one, ↓splitB_true, ↓splitB_false, go_sem, szOf_lo h0, szOf_hi h1, szOf_szOf h0]
    | refine AW_region (id := 8) Γa8_ok [] (by kernel_rfl) ?_; simp  [-List.getD_eq_getElem?_getD, -List.drop_one, ↓splitB_true, ↓splitB_false, go_sem, szOf_lo h0, szOf_hi h1, szOf_szOf h0]
    | refine AW_region (id := 9) Γa8_ok [] (by kernel_rfl) ?_; simp  [-List.getD_eq_getElem?_getD, -List.drop_one, ↓splitB_true, ↓splitB_false, go_sem, szOf_lo h0, szOf_hi h1, szOf_szOf h0]
    | refine AW_region (id := 10) Γa8_ok [] (by kernel_rfl) ?_; simp  [-List.getD_eq_getElem?_getD, -List.drop_one, ↓splitB_true, ↓splitB_false, go_sem, szOf_lo h0, szOf_hi h1, szOf_szOf h0]
    | refine AW_condA (c := .tmp 10) ?_; simp [-List.getD_eq_getElem?_getD, -List.drop_one, ↓splitB_true, ↓splitB_false, go_sem, szOf_lo h0, szOf_hi h1, szOf_szOf h0]; try (refine ⟨fun c10 => ?_, fun c10 => ?_⟩ <;> (try simp [B_iff, B_not] at c10))
    | refine AW_condA (c := .tmp 16) ?_; simp [-List.getD_eq_getElem?_getD, -List.drop_one, ↓splitB_true, ↓splitB_false, go_sem, szOf_lo h0, szOf_hi h1, szOf_szOf h0]; try (refine ⟨fun c16 => ?_, fun c16 => ?_⟩ <;> (try simp [B_iff, B_not] at c16))
    | refine AW_condA (c := .tmp 22) ?_; simp [-List.getD_eq_getElem?_getD, -List.drop_one, ↓splitB_true, ↓splitB_false, go_sem, szOf_lo h0, szOf_hi h1, szOf_szOf h0]; try (refine ⟨fun c22 => ?_, fun c22 => ?_⟩ <;> (try simp [B_iff, B_not] at c22))
    | (refine AW_block ?_)
    | (refine AW_exit ?_; simp [-List.getD_eq_getElem?_getD, -List.drop_one, ↓splitB_true, ↓splitB_false, go_sem])
    | (refine AW_skip ?_; simp [-List.getD_eq_getElem?_getD, -List.drop_one, ↓splitB_true, ↓splitB_false, go_sem])
    | (refine AW_ret ?_; simp [-List.getD_eq_getElem?_getD, -List.drop_one, ↓splitB_true, ↓splitB_false, go_sem, Try.results8, szOf_lo h0, szOf_hi h1, szOf_szOf h0])
    | (intro hx; change AW _ _ _ _ _ _)
    | (intro hx; refine ⟨fun hs => ?_, fun hs => ?_⟩)
    | (refine ⟨fun hs => ?_, fun hs => ?_⟩)
    | (refine ⟨?_, fun hs => ?_⟩; change AW _ _ _ _ _ _)
    | (refine ⟨fun hs => ?_, ?_⟩; rotate_left; change AW _ _ _ _ _ _; rotate_left)))
  all_goals (first
    | exact (szOf_neg (by assumption) h0 (by omega)).symm)
noncomputable def szAutomaton_pureC : Con := .pure fun
  | [.st [.list n_a c_a, .list n_b c_b, .list n_c c_c], .int .i64 left] => ((Is cI n_a c_a) ∧ (Is cB n_b c_b) ∧ (Is cT n_c c_c) ∧ (-1 ≤ left) ∧ (left ≤ 1048576), .int .i64 (szOf left ((de cI c_a).length + (de cB c_b).length + (de cT c_c).length)))
  | _ => (False, .any)
attribute [go_sem] szAutomaton_pureC
theorem szAutomaton_pureC_ok : ConOk Try.prog 8 szAutomaton_pureC := by
  refine ⟨callable Try.func8 (by decide) rfl, fun args h => ?_⟩
  revert h
  dsimp only
  split
  · intro h
    obtain ⟨⟨a, rfl, rfl⟩, ⟨b, rfl, rfl⟩, ⟨c, rfl, rfl⟩, h0, h1⟩ := h
    try simp only [de_cat] at *
    exact ⟨szAutomaton_pure a b c _ h0 h1, by simp [go_sem]⟩
  · intro h
    exact h.elim
noncomputable def Γa9 : FuncId → Con := ext Γa8 8 szAutomaton_pureC
attribute [go_sem] Γa9
theorem Γa9_ok : ∀ g, ConOk Try.prog g (Γa9 g) := ext_ok Γa8_ok szAutomaton_pureC_ok

theorem toAutomaton_pure (a : List Int) (b : List Bool) (c : List Tr4) (h0 : a.length ≤ 1048576) (h1 : b.length ≤ 1048576) (h2 : c.length ≤ 1048576) : Pure Try.prog 10 [.st [li cI a, li cB b, li cT c]] (.st [fr 1 cI a, fr 1 cB b, fr 4 cT c]) := by
  refine Pure.of_walk Try.func10 rfl (by simp [Try.f10]) (by simp [-List.drop_one, go_sem]) fun B hK => ?_
  (repeat' (first
    | refine AW_seq ?_
    | refine AW_region (id := 0) Γa9_ok [] (by kernel_rfl) ?_; simp  [-List.getD_eq_getElem?_getD, -List.drop_one, ↓splitB_true, ↓splitB_false, go_sem, h0, h1, h2]; try (refine AW_data hK 1 ?_; simp [go_sem])
    | refine AW_region (id := 1) Γa9_ok [] (by kernel_rfl) ?_; simp  [-List.getD_eq_getElem?_getD, -List.drop_one, ↓splitB_true, ↓splitB_false, go_sem, h0, h1, h2]; try (refine AW_matBox 3 rfl fun b3 hb3 => ?_)
    | refine AW_region (id := 2) Γa9_ok [] (by kernel_rfl) ?_; simp  [-List.getD_eq_getElem?_getD, -List.drop_one, ↓splitB_true, ↓splitB_false, go_sem, h0, h1, h2]
    | refine AW_region (id := 3) Γa9_ok [] (by kernel_rfl) ?_; simp  [-List.getD_eq_getElem?_getD, -List.drop_one, ↓splitB_true, ↓splitB_false, go_sem, h0, h1, h2]
    | refine AW_region (id := 4) Γa9_ok [] (by kernel_rfl) ?_; simp  [-List.getD_eq_getElem?_getD, -List.drop_one, ↓splitB_true, ↓splitB_false, go_sem, h0, h1, h2]
    | refine AW_region (id := 5) Γa9_ok [] (by kernel_rfl) ?_; simp  [-List.getD_eq_getElem?_getD, -List.drop_one, ↓splitB_true, ↓splitB_false, go_sem, h0, h1, h2]
    | (refine AW_block ?_)
    | (refine AW_exit ?_; simp [-List.getD_eq_getElem?_getD, -List.drop_one, ↓splitB_true, ↓splitB_false, go_sem])
    | (refine AW_skip ?_; simp [-List.getD_eq_getElem?_getD, -List.drop_one, ↓splitB_true, ↓splitB_false, go_sem])
    | (refine AW_ret ?_; simp [-List.getD_eq_getElem?_getD, -List.drop_one, ↓splitB_true, ↓splitB_false, go_sem, Try.results10, h0, h1, h2])
    | (intro hx; change AW _ _ _ _ _ _)
    | (intro hx; refine ⟨fun hs => ?_, fun hs => ?_⟩)
    | (refine ⟨fun hs => ?_, fun hs => ?_⟩)
    | (refine ⟨?_, fun hs => ?_⟩; change AW _ _ _ _ _ _)
    | (refine ⟨fun hs => ?_, ?_⟩; rotate_left; change AW _ _ _ _ _ _; rotate_left)))
noncomputable def toAutomaton_pureC : Con := .pure fun
  | [.st [.list n_a c_a, .list n_b c_b, .list n_c c_c]] => ((Is cI n_a c_a) ∧ (Is cB n_b c_b) ∧ (Is cT n_c c_c) ∧ ((de cI c_a).length ≤ 1048576) ∧ ((de cB c_b).length ≤ 1048576) ∧ ((de cT c_c).length ≤ 1048576), .st [fr 1 cI (de cI c_a), fr 1 cB (de cB c_b), fr 4 cT (de cT c_c)])
  | _ => (False, .any)
attribute [go_sem] toAutomaton_pureC
theorem toAutomaton_pureC_ok : ConOk Try.prog 10 toAutomaton_pureC := by
  refine ⟨callable Try.func10 (by decide) rfl, fun args h => ?_⟩
  revert h
  dsimp only
  split
  · intro h
    obtain ⟨⟨a, rfl, rfl⟩, ⟨b, rfl, rfl⟩, ⟨c, rfl, rfl⟩, h0, h1, h2⟩ := h
    try simp only [de_cat] at *
    exact ⟨toAutomaton_pure a b c h0 h1 h2, by simp [go_sem]⟩
  · intro h
    exact h.elim
noncomputable def Γa10 : FuncId → Con := ext Γa9 10 toAutomaton_pureC
attribute [go_sem] Γa10
theorem Γa10_ok : ∀ g, ConOk Try.prog g (Γa10 g) := ext_ok Γa9_ok toAutomaton_pureC_ok

theorem eqAutomaton_pure (a : List Int) (b : List Bool) (c : List Tr4) (a' : List Int) (b' : List Bool) (c' : List Tr4)  : Pure Try.prog 12 [.st [li cI a, li cB b, li cT c], .st [li cI a', li cB b', li cT c']] (.bool (decide (a = a') && decide (b = b') && decide (c = c'))) := by
  refine Pure.of_walk Try.func12 rfl (by simp [Try.f12]) (by simp [-List.drop_one, go_sem]) fun B hK => ?_
  (repeat' (first
    | refine AW_seq ?_
    | refine AW_region (id := 0) Γa10_ok [] (by kernel_rfl) ?_; simp  [-List.getD_eq_getElem?_getD, -List.drop_one, ↓splitB_true, ↓splitB_false, go_sem]; try (refine AW_data hK 2 ?_; simp [go_sem]; refine AW_data hK 3 ?_; simp [go_sem])
    | refine AW_region (id := 1) Γa10_ok [] (by kernel_rfl) ?_; simp  [-List.getD_eq_getElem?_getD, -List.drop_one, ↓splitB_true, ↓splitB_false, go_sem]
    | refine AW_region (id := 2) Γa10_ok [] (by kernel_rfl) ?_; simp  [-List.getD_eq_getElem?_getD, -List.drop_one, ↓splitB_true, ↓splitB_false, go_sem]
    | refine AW_region (id := 3) Γa10_ok [] (by kernel_rfl) ?_; simp  [-List.getD_eq_getElem?_getD, -List.drop_one, ↓splitB_true, ↓splitB_false, go_sem]
    | refine AW_region (id := 4) Γa10_ok [] (by kernel_rfl) ?_; simp  [-List.getD_eq_getElem?_getD, -List.drop_one, ↓splitB_true, ↓splitB_false, go_sem]
    | refine AW_region (id := 5) Γa10_ok [] (by kernel_rfl) ?_; simp  [-List.getD_eq_getElem?_getD, -List.drop_one, ↓splitB_true, ↓splitB_false, go_sem]
    | refine AW_region (id := 6) Γa10_ok [] (by kernel_rfl) ?_; simp  [-List.getD_eq_getElem?_getD, -List.drop_one, ↓splitB_true, ↓splitB_false, go_sem]
    | refine AW_region (id := 7) Γa10_ok [] (by kernel_rfl) ?_; simp  [-List.getD_eq_getElem?_getD, -List.drop_one, ↓splitB_true, ↓splitB_false, go_sem]
    | refine AW_condA (c := .tmp 10) ?_; simp [-List.getD_eq_getElem?_getD, -List.drop_one, ↓splitB_true, ↓splitB_false, go_sem]; try (refine ⟨fun c10 => ?_, fun c10 => ?_⟩ <;> (try simp [B_iff, B_not] at c10))
    | refine AW_condA (c := .tmp 16) ?_; simp [-List.getD_eq_getElem?_getD, -List.drop_one, ↓splitB_true, ↓splitB_false, go_sem]; try (refine ⟨fun c16 => ?_, fun c16 => ?_⟩ <;> (try simp [B_iff, B_not] at c16))
    | refine AW_condA (c := .tmp 22) ?_; simp [-List.getD_eq_getElem?_getD, -List.drop_one, ↓splitB_true, ↓splitB_false, go_sem]; try (refine ⟨fun c22 => ?_, fun c22 => ?_⟩ <;> (try simp [B_iff, B_not] at c22))
    | (refine AW_block ?_)
    | (refine AW_exit ?_; simp [-List.getD_eq_getElem?_getD, -List.drop_one, ↓splitB_true, ↓splitB_false, go_sem])
    | (refine AW_skip ?_; simp [-List.getD_eq_getElem?_getD, -List.drop_one, ↓splitB_true, ↓splitB_false, go_sem])
    | (refine AW_ret ?_; simp [-List.getD_eq_getElem?_getD, -List.drop_one, ↓splitB_true, ↓splitB_false, go_sem, Try.results12])
    | (intro hx; change AW _ _ _ _ _ _)
    | (intro hx; refine ⟨fun hs => ?_, fun hs => ?_⟩)
    | (refine ⟨fun hs => ?_, fun hs => ?_⟩)
    | (refine ⟨?_, fun hs => ?_⟩; change AW _ _ _ _ _ _)
    | (refine ⟨fun hs => ?_, ?_⟩; rotate_left; change AW _ _ _ _ _ _; rotate_left)))
  all_goals (first
    | (simp_all; done)
    | (intros; simp_all; done))
noncomputable def eqAutomaton_pureC : Con := .pure fun
  | [.st [.list n_a c_a, .list n_b c_b, .list n_c c_c], .st [.list n_a' c_a', .list n_b' c_b', .list n_c' c_c']] => ((Is cI n_a c_a) ∧ (Is cB n_b c_b) ∧ (Is cT n_c c_c) ∧ (Is cI n_a' c_a') ∧ (Is cB n_b' c_b') ∧ (Is cT n_c' c_c'), .bool (decide ((de cI c_a) = (de cI c_a')) && decide ((de cB c_b) = (de cB c_b')) && decide ((de cT c_c) = (de cT c_c'))))
  | _ => (False, .any)
attribute [go_sem] eqAutomaton_pureC
theorem eqAutomaton_pureC_ok : ConOk Try.prog 12 eqAutomaton_pureC := by
  refine ⟨callable Try.func12 (by decide) rfl, fun args h => ?_⟩
  revert h
  dsimp only
  split
  · intro h
    obtain ⟨⟨a, rfl, rfl⟩, ⟨b, rfl, rfl⟩, ⟨c, rfl, rfl⟩, ⟨a', rfl, rfl⟩, ⟨b', rfl, rfl⟩, ⟨c', rfl, rfl⟩⟩ := h
    try simp only [de_cat] at *
    exact ⟨eqAutomaton_pure a b c a' b' c', by simp [go_sem]⟩
  · intro h
    exact h.elim
noncomputable def Γa11 : FuncId → Con := ext Γa10 12 eqAutomaton_pureC
attribute [go_sem] Γa11
theorem Γa11_ok : ∀ g, ConOk Try.prog g (Γa11 g) := ext_ok Γa10_ok eqAutomaton_pureC_ok
end Go.Proofs.Ytcbhfdcohohmcaa.Vm

